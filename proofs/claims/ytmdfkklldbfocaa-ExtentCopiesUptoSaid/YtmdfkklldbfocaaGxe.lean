/-
  Models, part 5: ranges over functions: frames with marks, rounds, the statement.
-/
import Derived.Test.YtmdfkklldbfocaaGxd
import Derived.RangeFuncRecord
import Derived.RangeFuncLeaves
set_option linter.unusedVariables false
set_option linter.unusedSimpArgs false
namespace Sx
open Go Go.RowKit

/-! ### Turning a block that is no row -/

theorem Sat.putObj {w0 : World} {S : Area} {m : Mem} {w : World} (h : Sat w0 S m w) {k b : Nat} {o o' : Obj} (hk : m k = some (.obj b o)) (ho' : ∀ c t f, o' ≠ .cells c t f) :
    Sat w0 S (upd m k (some (.obj b o'))) (w.putObj b o') := by
  have hok := h.ok k _ hk
  have hb : b < w.heap.size := hok.2 b rfl
  refine h.step ⟨⟨rfl, rfl, rfl, by simp [World.putObj], fun q hq hn => ?_⟩, fun E hE => ?_, fun E hE q hq => ?_⟩
  · exact World.putObj_heap_other (fun e => hn ⟨_, hk, rfl, e⟩)
  · cases hE
    exact ⟨⟨World.putObj_heap_same hb, ho'⟩, fun q hq => by simpa [World.putObj] using Nat.lt_of_le_of_lt (Nat.le_of_eq hq) hb⟩
  · cases hE
    exact .inr ⟨_, hk, hq, fun _ => rfl⟩

theorem Sat.dropObj {w0 : World} {S : Area} {m : Mem} {w : World} (h : Sat w0 S m w) {k b : Nat} {o o' : Obj} (hk : m k = some (.obj b o)) :
    Sat w0 S (upd m k none) (w.putObj b o') := by
  refine h.step ⟨⟨rfl, rfl, rfl, by simp [World.putObj], fun q hq hn => ?_⟩, fun E hE => (by cases hE), fun E hE => (by cases hE)⟩
  exact World.putObj_heap_other (fun e => hn ⟨_, hk, rfl, e⟩)

/-! ### Marks -/

def mark (D : Nat) : Deferred := { target := .collected D, args := #[] }
abbrev blkD (D : Nat) : Ent := .obj D (.deferred (some []))

theorem leave_marks {P : Program} {R : Ending → World → Prop} {fn : Func} {f : FuncId} {w0 : World} {S : Area} (hf : P.funcs[f]? = some fn) :
    ∀ (Ds : List (Nat × Nat)) (m : Mem) (w : World) (fr : Frame), fr.mode = .returning → fr.kind = .normal → fr.fn = f → fr.defers = Ds.map (fun p => mark p.2) → Sat w0 S m w →
      (∀ p ∈ Ds, m p.1 = some (blkD p.2)) → (Ds.map Prod.fst).Nodup →
      (∀ m' w', Sat w0 S m' w' → (∀ k, k ∉ Ds.map Prod.fst → m' k = m k) → ∃ v, (results fn fr.tmps).run P w' = .ok v w' ∧ R (.returned v) w') →
      ∀ cs, ∃ e w' fr', R e w' ∧ Comes P (lone fr cs w) (lone fr' cs w') e ∧ fr'.fn = f ∧ fr'.leaving P w' e
  | [], m, w, fr, hm, hk, hfn, hd, hs, _, _, hR, cs => by
    obtain ⟨v, h1, h2⟩ := hR m w hs (fun _ _ => rfl)
    exact ⟨.returned v, w, fr, h2, Steps.refl _ _, hfn, hm, hd, hk, fn, hfn ▸ hf, h1⟩
  | (k, D) :: Ds, m, w, fr, hm, hk, hfn, hd, hs, hD, hnd, hR, cs => by
    rw [List.map_cons] at hd hnd
    obtain ⟨hkn, hnd'⟩ := List.nodup_cons.1 hnd
    have h0 := hD (k, D) (by simp)
    have hheap := (hs.ok k _ h0).1.1
    have h1 := step_collected (P := P) (cs := cs) (w := w) (by rw [hm]; simp) hd rfl (run_takeDeferred hheap)
    obtain ⟨e, w', fr', q1, q2, q3, q4⟩ := leave_marks hf Ds (upd m k none) (w.putObj D (.deferred none)) { fr with defers := [] ++ Ds.map (fun p => mark p.2) } hm hk hfn rfl (hs.dropObj h0)
      (fun p hp => by
        have hne : k ≠ p.1 := fun e => hkn (List.mem_map.2 ⟨p, hp, e.symm⟩)
        rw [upd_other _ _ hne]; exact hD p (List.mem_cons_of_mem _ hp)) hnd'
      (fun m' w' hs' hm' => hR m' w' hs' (fun q hq => by
        simp only [List.map_cons, List.mem_cons, not_or] at hq
        rw [hm' q hq.2, upd_other _ _ (fun e => hq.1 e.symm)])) cs
    exact ⟨e, w', fr', q1, Comes.of_steps (.one h1) q2, q3, q4⟩

section
variable {P : Program} {b : Frame} {n : Nat} {w0 : World} {S : Area} {R : Ending → World → Prop} {k : List Item} {env : List (Nat × Value)} {mem : List (Nat × Ent)}

/-- The end of a function that ranged over functions. -/
theorem GS.retD {fn : Func} (Ds : List (Nat × Nat)) (ks keys : List Nat) (vs : List Value) (os : List Prop) {mem2 : List (Nat × Ent)} (hk : (b.kind, b.roundOf) = (.normal, none)) (hds : b.defers = Ds.map (fun p => mark p.2)) (hf : P.funcs[b.fn]? = some fn)
    (hD : Ds.map (fun p => look mem p.1) = Ds.map (fun p => some (blkD p.2))) (hnd : nodupB (Ds.map Prod.fst) = true) (hkeys : keys.all (fun q => !(Ds.map Prod.fst).contains q) = true) (hmem : memOut keys (look mem) = some mem2)
    (hr : resAll P env mem2 fn.results.toList ks = some (vs, os)) (ho : All os) (hR : ∀ w, Sat w0 S (look mem2) w → R (.returned (tupled vs)) w) : GS P b n w0 S R (.code .ret :: k) env mem := by
  intro a w hfit hw
  simp only [Prod.mk.injEq] at hk
  refine ⟨fun hro cs => ?_, fun h => by rw [hk.2] at h; cases h⟩
  rw [Frame.atR_of_none hro]
  have hDp : ∀ p ∈ Ds, look mem p.1 = some (blkD p.2) := fun p hp => by
    obtain ⟨i, hi⟩ := List.getElem?_of_mem hp
    have := congrArg (fun l : List (Option Ent) => l[i]?) hD
    simpa [hi] using this
  have hin : ∀ (q : Nat) (e : Ent), look mem2 q = some e → look mem q = some e ∧ q ∈ keys := by
    clear hr hR hkeys hw hfit hD hDp
    induction keys generalizing mem2 with
    | nil => intro q e hq; simp [memOut] at hmem; subst hmem; simp [look] at hq
    | cons t r ih =>
      intro q e hq
      unfold memOut at hmem
      split at hmem <;> simp at hmem
      rename_i u l h1 h2
      subst hmem
      simp only [look] at hq
      split at hq
      · rename_i hb; have := Nat.eq_of_beq_eq_true hb; subst this; exact ⟨by rw [h1]; exact hq, by simp⟩
      · obtain ⟨g1, g2⟩ := ih h2 q e hq; exact ⟨g1, List.mem_cons_of_mem _ g2⟩
  obtain ⟨e, w', fr', q1, q2, q3, q4⟩ := leave_marks (R := R) hf Ds (look mem) w { b.at a (.code .ret :: k) with mode := .returning } rfl hk.1 rfl (hfit.defers.trans hds) hw hDp (nodupB_spec hnd) (fun m' w' hs' hm' => by
    have hs2 : Sat w0 S (look mem2) w' := hs'.less fun q e hq => by
      obtain ⟨g1, g2⟩ := hin q e hq
      have h3 := List.all_eq_true.1 hkeys q g2
      rw [hm' q (fun hc => by rw [List.contains_iff_mem.2 hc] at h3; cases h3), g1]
    exact ⟨_, results_run hfit hs2 hr ho, hR w' hs2⟩) cs
  exact ⟨e, w', fr', q1, Comes.of_steps (.one step_ret) q2, q3, q4⟩

/-! ### In a round -/

def setKey (mem : List (Nat × Ent)) (k : Nat) (e : Ent) : List (Nat × Ent) := mem.map fun p => match Nat.beq p.1 k with | true => (p.1, e) | false => p
theorem look_setKey {mem : List (Nat × Ent)} {k : Nat} {e e0 : Ent} (h : look mem k = some e0) : look (setKey mem k e) = upd (look mem) k (some e) := by
  have key : ∀ (l : List (Nat × Ent)) (t : Nat), k ≠ t → look (setKey l k e) t = look l t := by
    intro l
    induction l with
    | nil => intro t _; rfl
    | cons p l ih =>
      intro t ht
      obtain ⟨i, x⟩ := p
      simp only [setKey, List.map_cons, look]
      cases hb : Nat.beq i k with
      | true =>
        have := Nat.eq_of_beq_eq_true hb
        subst this
        have hf : Nat.beq i t = false := by
          cases hq : Nat.beq i t with
          | false => rfl
          | true => exact absurd (Nat.eq_of_beq_eq_true hq) ht
        simp only [hf]
        exact ih t ht
      | false =>
        simp only []
        cases Nat.beq i t with
        | true => rfl
        | false => exact ih t ht
  have same : ∀ (l : List (Nat × Ent)), look l k = some e0 → look (setKey l k e) k = some e := by
    intro l
    induction l with
    | nil => intro h; simp [look] at h
    | cons p l ih =>
      obtain ⟨i, x⟩ := p
      intro h
      simp only [setKey, List.map_cons, look] at h ⊢
      cases hb : Nat.beq i k with
      | true => simp only [hb]
      | false =>
        rw [hb] at h
        simp only [hb]
        exact ih h
  funext t
  by_cases ht : k = t
  · subst ht; rw [upd_same]; exact same mem h
  · rw [upd_other _ _ ht]; exact key mem t ht

theorem GS.beginRound {l : Nat} (kl : Nat) {r : Loop} {mem' : List (Nat × Ent)} (hro : b.roundOf = some l) (hm : look mem kl = some (.obj l (.loop r))) (hr : r.state = .ready) (hm' : setKey mem kl (.obj l (.loop { r with state := .busy })) = mem')
    (h : GS P b n w0 S R k env mem') : GS P b n w0 S R (.beginRound :: k) env mem := by
  subst hm'
  intro a w hf hw
  have hheap := (hw.ok kl _ hm).1.1
  refine .step (fun _ => stepR_beginRound hro (run_beginRound hheap hr)) (h a _ hf ?_)
  rw [look_setKey hm]
  exact hw.putObj hm (fun _ _ _ h => by cases h)

/-- What is asked at a round's end. -/
theorem endRound_sat {l kl : Nat} {r : Loop} {mem' : List (Nat × Ent)} {w : World} (jump : Option Code) (hm : look mem kl = some (.obj l (.loop r))) (hw : Sat w0 S (look mem) w)
    (hm' : setKey mem kl (.obj l (.loop { r with state := if jump.isNone then .ready else .done, pending := jump })) = mem') :
    ∃ w', (Instr.endRound l jump).run P w = .ok (.bool jump.isNone) w' ∧ Sat w0 S (look mem') w' := by
  subst hm'
  refine ⟨_, run_endRound jump (hw.ok kl _ hm).1.1, ?_⟩
  rw [look_setKey hm]
  exact hw.putObj hm (fun _ _ _ h => by cases h)

theorem GS.roundEnd {l : Nat} (kl : Nat) {r : Loop} {mem' : List (Nat × Ent)} (hk : b.kind = .normal) (hro : b.roundOf = some l) (hds : b.defers = []) (hm : look mem kl = some (.obj l (.loop r))) (hm' : setKey mem kl (.obj l (.loop { r with state := .ready, pending := none })) = mem')
    (hR : ∀ w, Sat w0 S (look mem') w → R (.returned (.bool true)) w) : GS P b n w0 S R [] env mem := by
  intro a w hf hw
  refine ⟨fun h => (by rw [hro] at h; cases h), fun _ c cs => ?_⟩
  obtain ⟨w', h1, h2⟩ := endRound_sat (P := P) none hm hw hm'
  exact ⟨_, w', hR w' h2, .one (stepR_round_end hro hk h1)⟩
theorem GS.roundRet {l : Nat} (kl : Nat) {r : Loop} {mem' : List (Nat × Ent)} (hk : b.kind = .normal) (hro : b.roundOf = some l) (hds : b.defers = []) (hm : look mem kl = some (.obj l (.loop r))) (hm' : setKey mem kl (.obj l (.loop { r with state := .done, pending := some .ret })) = mem')
    (hR : ∀ w, Sat w0 S (look mem') w → R (.returned (.bool false)) w) : GS P b n w0 S R (.code .ret :: k) env mem := by
  intro a w hf hw
  refine ⟨fun h => (by rw [hro] at h; cases h), fun _ c cs => ?_⟩
  obtain ⟨w', h1, h2⟩ := endRound_sat (P := P) (some .ret) hm hw hm'
  exact ⟨_, w', hR w' h2, .one (stepR_round_ret hro hk h1)⟩
theorem GS.roundExit {l id : Nat} (kl : Nat) {r : Loop} {mem' : List (Nat × Ent)} (hk : b.kind = .normal) (hro : b.roundOf = some l) (hds : b.defers = []) (hx : exitTo id k = none) (hm : look mem kl = some (.obj l (.loop r))) (hm' : setKey mem kl (.obj l (.loop { r with state := .done, pending := some (.exit id) })) = mem')
    (hR : ∀ w, Sat w0 S (look mem') w → R (.returned (.bool false)) w) : GS P b n w0 S R (.code (.exit id) :: k) env mem := by
  intro a w hf hw
  refine ⟨fun h => (by rw [hro] at h; cases h), fun _ c cs => ?_⟩
  obtain ⟨w', h1, h2⟩ := endRound_sat (P := P) (some (.exit id)) hm hw hm'
  exact ⟨_, w', hR w' h2, .one (stepR_round_exit hro hk hx h1)⟩
end

def roundFrame (f : FuncId) (l : Nat) : Frame := { (default : Frame) with fn := f, kind := .normal, roundOf := some l }
theorem round_in {P : Program} {f : FuncId} {l : Nat} {tmps : Array Value} {assign body : Code} {w : World} {R : Ending → World → Prop}
    (h : Gm P (roundFrame f l) R [.code assign, .beginRound, .code body] { tmps := tmps, defers := [] } w) : RoundIn (Fw none) 0 P l f tmps assign body w R := by
  refine ⟨trivial, fun c cs _ => ?_⟩
  obtain ⟨v, w', hR, hs⟩ := h.2 rfl c cs
  refine ⟨.returned v, w', hR, ?_⟩
  have hb0 : Frame.round l f tmps assign body .normal = (roundFrame f l).atR { tmps := tmps, defers := [] } [.code assign, .beginRound, .code body] := by
    simp [Frame.round, Frame.atR, roundFrame]
  rw [hb0]
  exact steps_fw.2 hs

/-! ### Calls of 'yield' -/

def CallY (P : Program) (l : Nat) (args : Array Value) (w : World) (R : Ending → World → Prop) : Prop :=
  ∃ f tmps assign body, (Instr.yield l args).run P w = .ok (.round l f tmps assign body) w ∧ RoundIn (Fw none) 0 P l f tmps assign body w R
theorem round_fw {P : Program} {r : Option Nat} {n m : Nat} {l : Nat} {f : FuncId} {tmps : Array Value} {assign body : Code} {w : World} {R : Ending → World → Prop} (h : RoundIn (Fw none) n P l f tmps assign body w R) : RoundIn (Fw r) m P l f tmps assign body w R :=
  ⟨trivial, fun c cs _ => h.2 c cs (room_fw _ _)⟩
def YieldG (P : Program) (l : Nat) (args : Array Value) {X : Type} (v : X → Value) (own ro : List Ent) (es' : X → List Ent) : Prop :=
  ∀ w, GoodG own ro w → CallY P l args w fun e w' => ∃ x, e = .returned (v x) ∧ TurnsG own ro (es' x) w w'

section
variable {P : Program} {b : Frame} {n : Nat} {w0 : World} {S : Area} {R : Ending → World → Prop} {k : List Item} {env : List (Nat × Value)} {mem : List (Nat × Ent)} {ops : Array Oper}
theorem GR.yield {X : Type} {i : Nat} {o : Oper} {l : Nat} {args : Array Value} {v : X → Value} {mem' : X → List (Nat × Ent)} {env' : X → List (Nat × Value)} (ho : ops[i]? = some o)
    (hloc : dstIn n o.dst = true ∧ notSelect o.op = true ∧ wantedS ops (look env) o = some true ∧ o.op.operands.toList.all (knows (look env)) = true)
    (hex : ∀ w, (execOp (val (look env)) o).run P w = (Instr.yield l args).run P w)
    (hc : ∀ w, Sat w0 S (look mem) w → CallY P l args w fun e w' => ∃ x, e = .returned (v x) ∧ Sat w0 S (look (mem' x)) w')
    (henv : ∀ x t u, look (env' x) t = some u → put (look env) o.dst (v x) t = some u)
    (h : ∀ x, GR P b n w0 S R ops (i + 1) k (env' x) (mem' x)) : GR P b n w0 S R ops i k env mem := by
  intro a w hf hw
  obtain ⟨hd, hns, hwt, hall⟩ := hloc
  have hlt : i < ops.size := (Array.getElem?_eq_some_iff.1 ho).1
  have hσ : execOp a.eval o = execOp (val (look env)) o := execOp_congr o (fun cs b hc => by simp [hc, notSelect] at hns) fun x hx => hf.eval (List.all_eq_true.1 hall x (by simpa using hx))
  rw [show ops.size - i = (ops.size - (i + 1)) + 1 by omega, List.range'_succ, wpOpsIn_cons]
  unfold wpOpIn
  simp only [ho, wantedS_sound hf hwt, if_true]
  refine ⟨fun _ _ => trivial, ?_⟩
  rw [Oper.semAt_eq _ _ _ (fun c hc => by rw [hc] at hns; cases hns), hσ, hex w]
  obtain ⟨f, tmps, assign, body, hy, hr⟩ := hc w hw
  rw [hy]
  refine ⟨fun q => by simp [Fw] at q, (round_fw hr).mono fun e w' ⟨x, he, hs⟩ => ?_⟩
  subst he
  refine h x _ w' ?_ hs
  exact (hf.put (fun t ht => by simp [ht, dstIn] at hd; exact hd) (v x)).less (henv x)

theorem GR.callY {X : Type} {i : Nat} {l : Nat} {args : Array Value} {v : X → Value} {mem' : X → List (Nat × Ent)} {env' : X → List (Nat × Value)} {own ro : List Ent} {es' : X → List Ent} (ks nk live keys : List Nat) (al : Bool)
    (hi : Nat.blt i ops.size = true)
    (hloc : (dstIn n (ops.getD i default).dst && notSelect (ops.getD i default).op && ((ops.getD i default).op.operands.toList.all (knows (look env))) && (match wantedS ops (look env) (ops.getD i default) with | some b => b | none => false)) = true)
    (hex : ∀ w, (execOp (val (look env)) (ops.getD i default)).run P w = (Instr.yield l args).run P w)
    (hnd : (nodupB ks && nodupB nk && own.all Ent.own) = true) (hm : ks.map (look mem) = own.map some) (hlen : ∀ x, nk.length = (es' x).length)
    (hal : al = false → ∀ x, (es' x).all Ent.own = true)
    (hr : RoAll (look mem) ks al ro)
    (hmem : ∀ x, memOut keys (setAll (dropKs (look mem) ks) nk (es' x)) = some (mem' x))
    (henv : ∀ x, envOut live (put (look env) (ops.getD i default).dst (v x)) = some (env' x))
    (hc : YieldG P l args v own ro es')
    (h : ∀ x, GR P b n w0 S R ops (i + 1) k (env' x) (mem' x)) : GR P b n w0 S R ops i k env mem := by
  simp only [Bool.and_eq_true] at hloc hnd
  obtain ⟨⟨⟨h1, h2⟩, h3⟩, h4⟩ := hloc
  obtain ⟨⟨n1, n2⟩, n3⟩ := hnd
  have hlt : i < ops.size := by simpa [Nat.blt_eq] using hi
  have ho : ops[i]? = some (ops.getD i default) := by
    rw [Array.getD, dif_pos hlt, Array.getElem?_eq_getElem hlt]; rfl
  have hwt : wantedS ops (look env) (ops.getD i default) = some true := by
    cases hw : wantedS ops (look env) (ops.getD i default) with
    | none => rw [hw] at h4; simp at h4
    | some b => rw [hw] at h4; simp at h4; rw [h4]
  refine GR.yield (X := X) (v := v) (mem' := mem') (env' := env') ho ⟨h1, h2, hwt, h3⟩ hex (fun w hw => ?_) (fun x => envOut_look live (henv x)) h
  have hg : GoodG own ro w := hw.goodG (nodupB_spec n1) hm n3 hr
  obtain ⟨f, tmps, assign, body, hy, hrd⟩ := hc w hg
  refine ⟨f, tmps, assign, body, hy, hrd.mono fun e w' ⟨x, he, ht⟩ => ⟨x, he, ?_⟩⟩
  have := hw.turnsG (nodupB_spec n2) hm n3 (hlen x) hr (fun ha => hal ha x) ht
  exact this.less (memOut_look keys (hmem x))
end

/-! ### A bag of entries -/

def bagP (es : List Ent) (w : World) : Prop := (∀ e ∈ es, e.ok w) ∧ ∀ (i j : Nat) (e e' : Ent), i ≠ j → es[i]? = some e → es[j]? = some e' → ∀ b, e.foot b → ¬ e'.foot b
theorem bagS (es : List Ent) : Stable (fun b => ∃ e ∈ es, e.foot b) (fun w => (∀ e ∈ es, e.holds w) ∧ ∀ (i j : Nat) (e e' : Ent), i ≠ j → es[i]? = some e → es[j]? = some e' → ∀ b, e.foot b → ¬ e'.foot b) :=
  fun w w' h ⟨h1, h2⟩ => ⟨fun e he => Ent.holds_of_same (fun b hb => h b ⟨e, he, hb⟩) (h1 e he), h2⟩
/-- Several own entries as one. -/
@[reducible] def bag (es : List Ent) : Ent := .say true (fun b => ∃ e ∈ es, e.foot b) _ (bagS es)
theorem bag_ok {es : List Ent} {w : World} : (bag es).ok w ↔ bagP es w :=
  ⟨fun h => ⟨fun e he => ⟨h.1.1 e he, fun b hb => h.2 b ⟨e, he, hb⟩⟩, h.1.2⟩, fun h => ⟨⟨fun e he => (h.1 e he).1, h.2⟩, fun b ⟨e, he, hb⟩ => (h.1 e he).2 b hb⟩⟩

/-! ### The statement -/

theorem look_snoc (k : Nat) (e : Ent) : ∀ (mem : List (Nat × Ent)) (t : Nat), look (mem ++ [(k, e)]) t = match look mem t with | some x => some x | none => (match Nat.beq k t with | true => some e | false => none)
  | [], t => by simp only [List.nil_append, look]; cases Nat.beq k t <;> rfl
  | (i, x) :: mem, t => by
    rw [List.cons_append, look, look]
    cases Nat.beq i t with
    | true => rfl
    | false => exact look_snoc k e mem t
theorem look_snoc_upd {mem : List (Nat × Ent)} {k : Nat} {e : Ent} (h : look mem k = none) : look (mem ++ [(k, e)]) = upd (look mem) k (some e) := by
  funext t
  rw [look_snoc]
  unfold upd
  cases hb : Nat.beq k t with
  | true =>
    have := Nat.eq_of_beq_eq_true hb
    subst this
    rw [h]
  | false => cases look mem t <;> rfl

theorem Sat.allocObj {w0 : World} {S : Area} {mem : List (Nat × Ent)} {w : World} (h : Sat w0 S (look mem) w) {k : Nat} (hk : look mem k = none) {o : Obj} (ho : ∀ c t f, o ≠ .cells c t f) :
    Sat w0 S (look (mem ++ [(k, .obj w.heap.size o)])) (w.alloc o) := by
  rw [look_snoc_upd hk]
  refine h.step (w' := w.alloc o) ⟨⟨rfl, rfl, rfl, by simp, fun q hq _ => Below.heap_alloc w o q hq⟩, fun E hE => ?_, fun E hE q hq => ?_⟩
  · cases hE
    exact ⟨⟨World.alloc_heap_new w o, ho⟩, fun q hq => by rw [show q = w.heap.size from hq]; simp⟩
  · cases hE
    exact .inl (Nat.le_of_eq (show q = w.heap.size from hq).symm)

section
variable {P : Program} {b : Frame} {n : Nat} {w0 : World} {S : Area} {R : Ending → World → Prop} {k : List Item} {env : List (Nat × Value)} {mem : List (Nat × Ent)}
/-- The record of a loop over a function. -/
@[reducible] def recOf (f : FuncId) (tmps : Array Value) (ps : Array Tmp) (assign body : Code) (D : Nat) (jump : Option Code) : Loop :=
  { state := if jump.isNone then .ready else .done, pending := jump, fn := f, tmps, params := ps, assign, body, defers := D }

theorem GS.rangeFunc {X : Type} {g : Operand} {ps : Array Tmp} {assign body : Code} {gf : FuncId} {lb : Array Value} (kD kl : Nat) {jump : X → Option Code} {mem' : X → List (Nat × Ent)}
    (hro : b.roundOf = none) (hkn : knows (look env) g = true) (hg : val (look env) g = .func (.func gf) #[] lb) (eg : ∀ args w, (callFunc gf args).run P w = .ok (.enter gf args) w)
    (hfr : Nat.beq kD kl = false ∧ look mem kD = none ∧ look mem kl = none) (hfr' : ∀ x, look (mem' x) kD = none ∧ look (mem' x) kl = none)
    (hcall : ∀ (tmps : Array Value) (D : Nat) (w : World), tmps.size = n → (∀ t u, look env t = some u → tmps[t]? = some u) →
      Sat w0 S (look (mem ++ [(kD, blkD D)] ++ [(kl, .obj (D + 1) (.loop (recOf b.fn tmps ps assign body D none)))])) w →
      Calls P gf (#[.func (.yield (D + 1)) #[] #[]] ++ lb) w fun e w' => ∃ (x : X) (vv : Value), e = .returned vv ∧
        Sat w0 S (look (mem' x ++ [(kD, blkD D)] ++ [(kl, .obj (D + 1) (.loop (recOf b.fn tmps ps assign body D (jump x))))])) w')
    (h : ∀ D x, GS P { b with defers := mark D :: b.defers } n w0 S R (((jump x).map Item.code).toList ++ k) env (mem' x ++ [(kD, blkD D)])) : GS P b n w0 S R (.code (.rangeFunc g ps assign body) :: k) env mem := by
  intro a w hf hw
  have hev : a.eval g = .func (.func gf) #[] lb := by rw [hf.eval hkn, hg]
  have hne : kD ≠ kl := fun e => by rw [e] at hfr; simp at hfr
  have hkl : look (mem ++ [(kD, blkD w.heap.size)]) kl = none := by
    rw [look_snoc_upd hfr.2.1, upd_other _ _ hne]; exact hfr.2.2
  have hw1 := (hw.allocObj (k := kD) hfr.2.1 (o := .deferred (some [])) (fun _ _ _ h => by cases h))
  have hw2 := hw1.allocObj (k := kl) hkl (o := .loop (recOf b.fn a.tmps ps assign body w.heap.size none)) (fun _ _ _ h => by cases h)
  rw [World.size_alloc] at hw2
  have he : (Instr.enterLoop b.fn a.tmps ps assign body b.roundOf).run P w = .ok (w.heap.size + 1, [{ target := .collected w.heap.size, args := #[] }]) ((w.alloc (.deferred (some []))).alloc (.loop (recOf b.fn a.tmps ps assign body w.heap.size none))) := by
    rw [hro]; exact run_enterLoop_outer _ _ _ _ _
  have hres : (resolve a.eval (rangeCall g (w.heap.size + 1)) 0).run P ((w.alloc (.deferred (some []))).alloc (.loop (recOf b.fn a.tmps ps assign body w.heap.size none))) =
      .ok { target := .fn (.func gf) lb, args := #[.func (.yield (w.heap.size + 1)) #[] #[]] } ((w.alloc (.deferred (some []))).alloc (.loop (recOf b.fn a.tmps ps assign body w.heap.size none))) := by
    simp only [resolve, hev]
    simp [go_sem]
  have hinv : (invoke (.fn (.func gf) lb) #[.func (.yield (w.heap.size + 1)) #[] #[]]).run P ((w.alloc (.deferred (some []))).alloc (.loop (recOf b.fn a.tmps ps assign body w.heap.size none))) =
      .ok (.enter gf (#[.func (.yield (w.heap.size + 1)) #[] #[]] ++ lb)) ((w.alloc (.deferred (some []))).alloc (.loop (recOf b.fn a.tmps ps assign body w.heap.size none))) := by
    simp [invoke, go_sem, eg]
  have hc := hcall a.tmps w.heap.size _ hf.size hf.slot hw2
  have key : ∀ cs, ∃ (x : X) (w4 : World), Sat w0 S (look (mem' x ++ [(kD, blkD w.heap.size)])) w4 ∧
      Steps P (lone (b.atR a (.code (.rangeFunc g ps assign body) :: k)) cs w) (lone (b.atR { a with defers := mark w.heap.size :: a.defers } (((jump x).map Item.code).toList ++ k)) cs w4) := by
    intro cs
    have henter := stepR_rangeFunc (P := P) (b := b) (a := a) (k := k) (cs := cs) (w := w) he hres hinv
    obtain ⟨e, w3, fr, ⟨x, vv, rfl, hs3⟩, hst, hfn, hleave⟩ := hc (b.atR { a with defers := [{ target := .collected w.heap.size, args := #[] }] ++ a.defers } (.inRangeFunc (w.heap.size + 1) :: k) :: cs)
    have hx := hfr' x
    have hklx : look (mem' x ++ [(kD, blkD w.heap.size)]) kl = none := by
      rw [look_snoc_upd hx.1, upd_other _ _ hne]; exact hx.2
    have hat : look (mem' x ++ [(kD, blkD w.heap.size)] ++ [(kl, .obj (w.heap.size + 1) (.loop (recOf b.fn a.tmps ps assign body w.heap.size (jump x))))]) kl = some (.obj (w.heap.size + 1) (.loop (recOf b.fn a.tmps ps assign body w.heap.size (jump x)))) := by
      rw [look_snoc_upd hklx, upd_same]
    have hheap := (hs3.ok kl _ hat).1.1
    have hend := run_endLoop (P := P) hheap (by show (if (jump x).isNone then LoopState.ready else LoopState.done) ≠ LoopState.busy; split <;> simp)
    refine ⟨x, _, (hs3.dropObj hat).less fun t e ht => ?_, Steps.trans (.one henter) (Steps.trans hst (Steps.trans (.one ?_) (.one (stepR_endRangeFunc hend))))⟩
    · have hne2 : kl ≠ t := fun e => by rw [← e, hklx] at ht; cases ht
      rw [upd_other _ _ hne2, look_snoc_upd hklx, upd_other _ _ hne2]
      exact ht
    · rw [← finish_atR_inRangeFunc (w.heap.size + 1) vv]; exact step_leave_returned hleave
  have hfit : Fits n (mark w.heap.size :: b.defers) (look env) { a with defers := mark w.heap.size :: a.defers } := ⟨hf.size, by simp [hf.defers], hf.slot⟩
  refine ⟨fun hb cs => ?_, fun hb c cs => (by rw [hro] at hb; cases hb)⟩
  obtain ⟨x, w4, hs4, hst⟩ := key cs
  obtain ⟨e, w5, fr, q1, q2, q3, q4⟩ := (h w.heap.size x _ w4 hfit hs4).1 hb cs
  exact ⟨e, w5, fr, q1, Comes.of_steps hst q2, q3, q4⟩
end

end Sx
