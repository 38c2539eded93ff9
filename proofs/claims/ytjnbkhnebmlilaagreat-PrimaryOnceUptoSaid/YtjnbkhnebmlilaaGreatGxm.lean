/-
  Models, part 8: closed runs (rows that are written out).
-/
import Derived.Test.YtjnbkhnebmlilaaGreatGxg
import Derived.Laws.Externs
import Derived.Lib.Overlaps
set_option linter.unusedVariables false
set_option linter.unusedSimpArgs false
namespace Sx
open Go Go.RowKit
theorem ne_rd {ob : Option Addr} {sz : Nat} {r : List Value} {rows : List (List Value)} {w : World} (h : (Ent.rd ob sz (r :: rows)).ok w) : ob.isNone = false := by
  obtain ⟨a, ha, _⟩ := h.1 (by simp)
  rw [ha]; rfl
theorem ne_osl {ob : Option Addr} {cap T sz : Nat} {r : List Value} {rows : List (List Value)} {w : World} (h : (Ent.osl ob cap T sz (r :: rows)).ok w) : ob.isNone = false := ne_rd (Ent.osl_rd h)

/-- A call that makes one new entry, wherever it lies. -/
theorem CallG.toN1 {P : Program} {g : FuncId} {args : Array Value} {X : Type} {v : X → Value} {ro : List Ent} {e1 : X → Ent} {vf : Fr → Value} {ef : Fr → Ent} {es : List (Option Ent)}
    (h : CallG P g args v [] ro (fun x => [e1 x])) (hr : RoFor es ro) (φ : X → Fr) (hv : ∀ x, v x = vf (φ x)) (he : ∀ x, e1 x = ef (φ x)) (ho : ∀ x, (e1 x).own = true) : CallN P g args vf ef es := by
  intro w hes
  have hro : ∀ ro, RoFor es ro → ∀ e ∈ ro, e.ok w := by
    intro ro
    induction ro with
    | nil => intro _ e he; cases he
    | cons a r ih =>
      intro hq e he
      rcases List.mem_cons.1 he with rfl | he
      · rcases hq.1 with ⟨E, h1, h2⟩ | hn
        · exact h2.1 w (hes E h1)
        · exact hn.1 w
      · exact ih hq.2 e he
  refine (h w ⟨(fun e he => by cases he), hro ro hr, (fun i j e e' _ hi => by simp at hi), (fun e he => by cases he)⟩).mono fun e w' ⟨x, hx, ht⟩ => ⟨φ x, by rw [hx, hv], ht.keep.mono (fun b _ ⟨e, h1, _⟩ => by cases h1), ?_, ?_⟩
  · rw [← he]; exact ht.ok _ (by simp)
  · intro b hb
    rw [← he] at hb
    rcases ht.foot _ (List.mem_singleton.2 rfl) b hb with h1 | ⟨e0, h1 | ⟨h1, _⟩, _⟩
    · exact h1
    · cases h1
    · rw [ho] at h1; cases h1

/-- Own entries, as one; and a call that turns several. -/
theorem bag_mem {w0 w : World} {S : Area} {mem mem' : List (Nat × Ent)} {K : Nat} {es : List Ent} {ks keys : List Nat} (hw : Sat w0 S (look mem) w) (hm : ks.map (look mem) = es.map some) (hown : es.all Ent.own = true) (hnd : nodupB ks = true)
    (hmem : memOut keys (upd (dropKs (look mem) ks) K (some (bag es))) = some mem') : Sat w0 S (look mem') w :=
  (hw.bag (nodupB_spec hnd) hm hown).less (memOut_look keys hmem)

/-- A cell of a call's argument. -/
def argCell (args : Array Value) (q i : Nat) : Value := match args.toList[q]? with
  | some (.agg cs) => cs.toList.getD i undef
  | some v => v
  | none => undef
end Sx

set_option linter.unusedVariables false
set_option linter.unusedSimpArgs false
namespace Sx
open Go Go.RowKit

section
variable {F : Fence} {n : Nat} {P : Program} {ops : Array Oper} {Q Q' : Exit → Act → World → Prop} {md : Region.Mode}

theorem wpIn_q {o : Oper} {a : Act} {w : World} {K : Act → World → Prop} (hQ : ∀ e, e ≠ .normal → ∀ a w, Q' e a w → Q e a w) (hh : o.wpIn F n P a w K Q') : o.wpIn F n P a w K Q := by
  have hl : LetsOut Q' → LetsOut Q := fun ⟨a, w, q⟩ => ⟨a, w, hQ _ (by simp) _ _ q⟩
  unfold Oper.wpIn at *
  refine ⟨hh.1, ?_⟩
  have hh := hh.2
  generalize (o.semAt F.round a.eval).run P w = r at *
  cases r with
  | ok x w' =>
    cases x <;> simp only [Oper.uponIn] at hh ⊢ <;>
      first
        | exact hh
        | exact ⟨hh.1, CallsIn.mono hh.2 (fun e w'' he => by cases e <;> first | exact he | exact hl he | exact hQ _ (by simp) _ _ he)⟩
        | exact ⟨hh.1, RoundIn.mono hh.2 (fun e w'' he => by cases e <;> first | exact he | exact hl he | exact hQ _ (by simp) _ _ he)⟩
  | halt x w' => cases x <;> simp only [Oper.uponIn] at hh ⊢ <;> first | exact hh | exact hQ _ (by simp) _ _ hh

theorem wpOpIn_q {i : Nat} {a : Act} {w : World} {K : Act → World → Prop} (hQ : ∀ e, e ≠ .normal → ∀ a w, Q' e a w → Q e a w) (hh : wpOpIn F n P ops Q' i K a w) : wpOpIn F n P ops Q i K a w := by
  unfold wpOpIn at *
  split
  · simpa [*] using hh
  · rename_i o ho
    simp only [ho] at hh
    split
    · rename_i hw; simp only [hw, if_true] at hh; exact wpIn_q hQ hh
    · rename_i hw; simp only [hw] at hh; exact hh

/-- The operations from L on, m of them, can come only when all others are done, and one behind the other. -/
def fillT : Nat → Nat → Array Bool → Array Bool
  | 0, _, l => l
  | m + 1, i, l => fillT m (i + 1) (l.setIfInBounds i true)
theorem set_comm (l : Array Bool) {i j : Nat} (h : i ≠ j) : (l.setIfInBounds i true).setIfInBounds j true = (l.setIfInBounds j true).setIfInBounds i true := by
  first
    | exact Array.setIfInBounds_comm _ _ h
    | (apply Array.ext_getElem?; intro k; simp [Array.getElem?_setIfInBounds]; split <;> split <;> simp_all)

theorem fill_comm {i : Nat} : ∀ (m L : Nat) (l : Array Bool), i < L → fillT m L (l.setIfInBounds i true) = (fillT m L l).setIfInBounds i true
  | 0, _, _, _ => rfl
  | m + 1, L, l, h => by
    unfold fillT
    rw [set_comm l (show i ≠ L by omega)]
    exact fill_comm m (L + 1) _ (by omega)

end

section
variable {P : Program} {b : Frame} {n : Nat} {w0 : World} {S : Area} {R : Ending → World → Prop} {k : List Item} {env : List (Nat × Value)} {mem : List (Nat × Ent)} {ops : Array Oper}
end
end Sx

set_option linter.unusedVariables false
set_option linter.unusedSimpArgs false
namespace Sx
open Go Go.RowKit

section
variable {α : Type}
end

section
variable {α : Type} {w0 w : World} {S : Area} {mem mem' : List (Nat × Ent)} {K K1 K2 : Nat} {T : Nat} {X : Hd → Value → α → List Value} {h h2 : Hds} {q : Option Addr} {l m : List α}

end

/-- A cut of an own slice, when the slice itself is given up. -/
theorem own_cut {ob : Option Addr} {cap T sz l hh : Nat} {rows : List (List Value)} (h1 : l ≤ hh) (h2 : hh ≤ cap) : Cov (.osl ob cap T sz rows) (.osl (cutOb ob l cap sz) (cap - l) T sz ((rows.drop l).take (hh - l))) := by
  have hb : cap - l ≠ 0 → blk (cutOb ob l cap sz) = blk ob := fun hn => by
    unfold cutOb
    rw [if_neg (by omega)]
    cases ob with
    | none => rfl
    | some a => obtain ⟨x, y, z⟩ := a; simp [blk, Addr.add]; split <;> rfl
  have hf : ∀ b, (Ent.osl (cutOb ob l cap sz) (cap - l) T sz ((rows.drop l).take (hh - l))).foot b → (Ent.osl ob cap T sz rows).foot b := fun b hq => ⟨by have := hq.1; omega, hq.2.trans (hb hq.1)⟩
  refine ⟨fun w hw => ⟨⟨by simp only [List.length_take, List.length_drop]; omega, fun hn => ?_⟩, fun b hq => hw.2 b (hf b hq)⟩, fun w _ b hq => hf b hq⟩
  obtain ⟨a, arr, ha, hs, hr, hsz, hrow⟩ := hw.1.2 (by omega)
  have ea : a = ⟨a.block, a.off, none⟩ := by obtain ⟨x, y, z⟩ := a; simp only at hs; subst hs; rfl
  refine ⟨⟨a.block, a.off + l * sz, none⟩, arr, ?_, rfl, hr, ?_, ?_⟩
  · unfold cutOb
    rw [if_neg (by omega), ha, Option.map_some, add_none hs]
  · show a.off + l * sz + (cap - l) * sz ≤ arr.size
    have : l * sz + (cap - l) * sz = cap * sz := by rw [← Nat.add_mul]; congr 1; omega
    omega
  · rw [ea] at hrow
    exact hrow.cut

/-! ### The same in one step each -/
section
variable {α : Type} {w0 w : World} {S : Area} {mem mem' : List (Nat × Ent)} {K K1 K2 I I2 KR KI N : Nat} {T : Nat} {X : Hd → Value → α → List Value} {J : Hd → α → List Ent} {h h2 : Hds} {q : Option Addr} {l m : List α} {x : α} {er : Ent}

/-- An own entry is seen as another one. -/
theorem own_cov {e0 e1 : Ent} {K2 : Nat} (keys : List Nat) (hw : Sat w0 S (look mem) w) (hk : look mem K = some e0) (ho : e0.own = true) (hc : Cov e0 e1) (hmem : memOut keys (upd (dropKs (look mem) [K]) K2 (some e1)) = some mem') : Sat w0 S (look mem') w :=
  (hw.join (es := [e0]) (by rw [List.map_cons, List.map_nil, hk]; rfl) (by rw [List.all_cons, ho]; rfl) (hc.1 w (hw.ok K _ hk)) (fun b hb => ⟨e0, List.mem_cons_self .., hc.2 w (hw.ok K _ hk) b hb⟩)).less (memOut_look keys hmem)

end

section
variable {P : Program} {b : Frame} {n : Nat} {w0 : World} {S : Area} {R : Ending → World → Prop} {k : List Item}
end
end Sx

set_option linter.unusedVariables false
set_option linter.unusedSimpArgs false
namespace Sx
open Go Go.RowKit

/-- Entries that are read, all of them one's own. -/
@[reducible] def Ent.mine (es : List Ent) : Ent := .say true (fun b => ∃ e ∈ es, e.foot b) (fun w => ∀ e ∈ es, e.holds w) (fun _ _ h hw e he => Ent.holds_of_same (fun b hb => h b ⟨e, he, hb⟩) (hw e he))
theorem mine_all {es : List Ent} {w : World} : (Ent.mine es).ok w ↔ (Ent.all es).ok w := ⟨fun h => ⟨h.1, h.2⟩, fun h => ⟨h.1, h.2⟩⟩
theorem Cov.mine {es : List Ent} : Cov (Ent.mine es) (Ent.all es) := ⟨fun _ h => mine_all.1 h, fun _ _ _ h => h⟩
theorem RoAll.app {m : Mem} {ks : List Nat} {al : Bool} : ∀ {ro rb : List Ent}, RoAll m ks al ro → RoAll m ks al rb → RoAll m ks al (ro ++ rb)
  | [], _, _, h => h
  | _ :: _, _, ⟨h1, h2⟩, h => ⟨h1, h2.app h⟩

/-- Entries that are as they were, or one's own. -/
def SameK (m : Mem) (kb : Nat) : List (Nat × Ent) → Prop
  | [] => True
  | (t, e) :: l => (t = kb ∨ e.own = true ∨ m t = some e) ∧ SameK m kb l
theorem SameK.at {m : Mem} {kb : Nat} : ∀ {l : List (Nat × Ent)}, SameK m kb l → ∀ t e, look l t = some e → t = kb ∨ e.own = true ∨ m t = some e
  | [], _, t, e, h => by cases h
  | (t0, e0) :: l, ⟨h1, h2⟩, t, e, h => by
    unfold look at h
    split at h
    · rename_i he
      simp only [Option.some.injEq] at h
      have : t0 = t := by simpa using he
      subst this; subst h; exact h1
    · exact h2.at t e h

section
variable {P : Program} {b : Frame} {n : Nat} {w0 : World} {S : Area} {R : Ending → World → Prop} {k : List Item} {env : List (Nat × Value)} {mem : List (Nat × Ent)}

end

/-! ### A region that draws its order, with one operation that all others wait for -/

section
variable {F : Fence} {n : Nat} {P : Program} {ops : Array Oper} {Q Q' : Exit → Act → World → Prop} {md : Region.Mode}
def lastC (md : Region.Mode) (ops : Array Oper) (LA : Array Bool) (L m : Nat) : Nat → Array Bool → Bool
  | 0, listed => listed == LA
  | g + 1, listed => !(Region.ready md ops listed).isEmpty && (Region.ready md ops listed == Region.ready md ops (fillT m L listed)) &&
    (Region.ready md ops listed).all fun i => Nat.blt i L && lastC md ops LA L m g (listed.setIfInBounds i true)
theorem any_splitC {LA : Array Bool} {L m : Nat} (hQ : ∀ e, e ≠ .normal → ∀ a w, Q' e a w → Q e a w) (hX : ∀ a w, Q' .normal a w → wpAnyIn F n P md ops Q m LA a w) :
    ∀ (g : Nat) (listed : Array Bool) (a : Act) (w : World), lastC md ops LA L m g listed = true → wpAnyIn F n P md ops Q' g (fillT m L listed) a w → wpAnyIn F n P md ops Q (g + m) listed a w
  | 0, listed, a, w, hb, h => by
    have : listed = LA := eq_of_beq hb
    rw [Nat.zero_add, this]
    exact hX a w h.2
  | g + 1, listed, a, w, hb, h => by
    simp only [lastC, Bool.and_eq_true, Bool.not_eq_true', beq_iff_eq, List.all_eq_true] at hb
    obtain ⟨⟨h1, h2⟩, h3⟩ := hb
    rw [show g + 1 + m = (g + m) + 1 by omega]
    refine ⟨fun e => (by rw [e] at h1; cases h1), fun i hi => ?_⟩
    obtain ⟨hne, hb'⟩ := h3 i hi
    have hne' : i < L := by simpa using hne
    have := h.2 i (by rw [← h2]; exact hi)
    refine wpOpIn_q hQ (wpOpIn_mono (fun a w q => ?_) this)
    rw [← fill_comm m L listed hne'] at q
    exact any_splitC hQ hX g _ a w hb' q
end

/-- In the middle of a region that draws its order: m operations are still to come. -/
def GA (P : Program) (b : Frame) (n : Nat) (w0 : World) (S : Area) (R : Ending → World → Prop) (ops : Array Oper) (m : Nat) (listed : Array Bool) (k : List Item) (env : List (Nat × Value)) (mem : List (Nat × Ent)) : Prop :=
  ∀ a w, Fits n b.defers (look env) a → Sat w0 S (look mem) w → wpAnyIn (Fw b.roundOf) 0 P .any ops (fun e a' w' => e = .normal ∧ Gm P b R k a' w') m listed a w

section
variable {P : Program} {b : Frame} {n : Nat} {w0 : World} {S : Area} {R : Ending → World → Prop} {k : List Item} {env : List (Nat × Value)} {mem : List (Nat × Ent)} {ops : Array Oper} {m : Nat} {listed : Array Bool}
theorem GA.conv {env' : List (Nat × Value)} {mem' : List (Nat × Ent)} (he : env = env') (hm : mem = mem') (h : GA P b n w0 S R ops m listed k env' mem') : GA P b n w0 S R ops m listed k env mem := by
  subst he; subst hm; exact h
theorem GA.setMem {mem' : List (Nat × Ent)} (hm : ∀ w, Sat w0 S (look mem) w → Sat w0 S (look mem') w) (h : GA P b n w0 S R ops m listed k env mem') : GA P b n w0 S R ops m listed k env mem :=
  fun a w hf hw => h a w hf (hm w hw)
theorem GA.know {p : Prop} (hm : ∀ w, Sat w0 S (look mem) w → p) (h : p → GA P b n w0 S R ops m listed k env mem) : GA P b n w0 S R ops m listed k env mem :=
  fun a w hf hw => h (hm w hw) a w hf hw

theorem GA.callG {X : Type} {i : Nat} {g : FuncId} {args : Array Value} {v : X → Value} {mem' : X → List (Nat × Ent)} {env' : X → List (Nat × Value)} {own ro : List Ent} {es' : X → List Ent} (ks nk live keys : List Nat) (al : Bool)
    (hrd : (Region.ready .any ops listed == [i]) = true) (hi : Nat.blt i ops.size = true)
    (hloc : (dstIn n (ops.getD i default).dst && notSelect (ops.getD i default).op && ((ops.getD i default).op.operands.toList.all (knows (look env))) && (match wantedS ops (look env) (ops.getD i default) with | some b => b | none => false)) = true)
    (hex : runPure P (execOp (val (look env)) (ops.getD i default)) = some (.enter g args))
    (hnd : (nodupB ks && nodupB nk && own.all Ent.own) = true) (hm : ks.map (look mem) = own.map some) (hlen : ∀ x, nk.length = (es' x).length)
    (hal : al = false → ∀ x, (es' x).all Ent.own = true)
    (hr : RoAll (look mem) ks al ro)
    (hmem : ∀ x, memOut keys (setAll (dropKs (look mem) ks) nk (es' x)) = some (mem' x))
    (henv : ∀ x, envOut live (put (look env) (ops.getD i default).dst (v x)) = some (env' x))
    (hc : CallG P g args v own ro es')
    (h : ∀ x, GA P b n w0 S R ops m (listed.setIfInBounds i true) k (env' x) (mem' x)) : GA P b n w0 S R ops (m + 1) listed k env mem := by
  simp only [Bool.and_eq_true] at hloc hnd
  obtain ⟨⟨⟨h1, h2⟩, h3⟩, h4⟩ := hloc
  obtain ⟨⟨n1, n2⟩, n3⟩ := hnd
  have hlt : i < ops.size := by simpa [Nat.blt_eq] using hi
  have ho : ops[i]? = some (ops.getD i default) := by
    rw [Array.getD, dif_pos hlt, Array.getElem?_eq_getElem hlt]; rfl
  have hwt : wantedS ops (look env) (ops.getD i default) = some true := by
    cases hw : wantedS ops (look env) (ops.getD i default) with
    | none => rw [hw] at h4; simp at h4
    | some b => rw [hw] at h4; simp at h4; rw [h4]
  have hready : Region.ready .any ops listed = [i] := eq_of_beq hrd
  intro a w hf hw
  refine ⟨fun e => (by rw [hready] at e; cases e), fun j hj => ?_⟩
  rw [hready] at hj
  obtain rfl := List.mem_singleton.1 hj
  have hσ : execOp a.eval (ops.getD j default) = execOp (val (look env)) (ops.getD j default) := execOp_congr _ (fun cs b hc => by rw [hc] at h2; simp [notSelect] at h2) fun x hx => hf.eval (List.all_eq_true.1 h3 x (by simpa using hx))
  unfold wpOpIn
  simp only [ho, wantedS_sound hf hwt, if_true]
  refine wp_in (fun c hc => by rw [hc] at h2; cases h2) ?_
  unfold Oper.wp
  rw [hσ, runPure_sound _ hex w, Oper.upon_enter]
  have hg : GoodG own ro w := hw.goodG (nodupB_spec n1) hm n3 hr
  refine (hc w hg).mono fun e w' ⟨x, he, ht⟩ => ?_
  have hs := (hw.turnsG (nodupB_spec n2) hm n3 (hlen x) hr (fun ha => hal ha x) ht).less (memOut_look keys (hmem x))
  subst he
  refine h x _ w' ?_ hs
  exact (hf.put (fun t ht => by rw [ht] at h1; simpa [dstIn] using h1) (v x)).less (envOut_look live (henv x))

theorem GA.rest {i : Nat} {env' : (Nat → Fr) → List (Nat × Value)} {mem' : (Nat → Fr) → List (Nat × Ent)} (hs : List (Nat × Hint)) (live ks : List Nat) (os : (Nat → Fr) → List Prop)
    (hB : lexH .any ops (hintAt hs) m i listed = true) (hrun : ∀ fr, symRun P n ops hs i m live ks env mem fr = some (env' fr, mem' fr, os fr)) (ho : ∀ fr, All (os fr))
    (h : ∀ fr, GS P b n w0 S R k (env' fr) (mem' fr)) : GA P b n w0 S R ops m listed k env mem := by
  intro a w hf hw
  have hex : ∀ fr, ∃ s : SState, (∃ os, chainF P n ops (hintAt hs) fr (List.range' i m) ⟨look env, look mem⟩ = some (s, os) ∧ All os) ∧
      (∀ t v, look (env' fr) t = some v → s.ρ t = some v) ∧ (∀ t v, look (mem' fr) t = some v → s.m t = some v) := fun fr => by
    obtain ⟨s, hc, h2, h3⟩ := symRun_chain (hrun fr)
    exact ⟨s, ⟨os fr, hc, ho fr⟩, h2, h3⟩
  obtain ⟨sF, hsF⟩ : ∃ sF : (Nat → Fr) → SState, ∀ fr, (∃ os, chainF P n ops (hintAt hs) fr (List.range' i m) ⟨look env, look mem⟩ = some (sF fr, os) ∧ All os) ∧
      (∀ t v, look (env' fr) t = some v → (sF fr).ρ t = some v) ∧ (∀ t v, look (mem' fr) t = some v → (sF fr).m t = some v) := ⟨fun fr => Classical.choose (hex fr), fun fr => Classical.choose_spec (hex fr)⟩
  refine any_sound (hs := hintAt hs) (n := n) (w0 := w0) (S := S) m _ (fun _ => ⟨0, none, 0, [], fun _ _ => (none, 0)⟩) ⟨look env, look mem⟩ sF a _ hf hw (fun fr _ => ?_) ?_
  · obtain ⟨os, h1, h2⟩ := (hsF fr).1
    exact anyF_lex m i _ _ os hB h1 h2
  · intro fr a' w' hf' hw'
    exact ⟨rfl, h fr a' w' (hf'.less (hsF fr).2.1) (hw'.less (hsF fr).2.2)⟩

theorem GS.regionMid {id : Nat} (L m : Nat) {env' : (Nat → Fr) → List (Nat × Value)} {mem' : (Nat → Fr) → List (Nat × Ent)} (hs : List (Nat × Hint)) (live ks : List Nat) (os : (Nat → Fr) → List Prop) (hm : P.follows .mixedOrders = true) (hsz : Nat.beq ops.size (L + m) = true)
    (hB : lexH .any ops (hintAt hs) L 0 (fillT m L (Array.replicate ops.size false)) = true) (hl : lastC .any ops (fillT L 0 (Array.replicate ops.size false)) L m L (Array.replicate ops.size false) = true)
    (hrun : ∀ fr, symRun P n ops hs 0 L live ks env mem fr = some (env' fr, mem' fr, os fr)) (ho : ∀ fr, All (os fr))
    (h : ∀ fr, GA P b n w0 S R ops m (fillT L 0 (Array.replicate ops.size false)) k (env' fr) (mem' fr)) : GS P b n w0 S R (.code (.region id ops true) :: k) env mem := by
  intro a w hf hw
  have hsz := Nat.eq_of_beq_eq_true hsz
  have hex : ∀ fr, ∃ s : SState, (∃ os, chainF P n ops (hintAt hs) fr (List.range' 0 L) ⟨look env, look mem⟩ = some (s, os) ∧ All os) ∧
      (∀ t v, look (env' fr) t = some v → s.ρ t = some v) ∧ (∀ t v, look (mem' fr) t = some v → s.m t = some v) := fun fr => by
    obtain ⟨s, hc, h2, h3⟩ := symRun_chain (hrun fr)
    exact ⟨s, ⟨os fr, hc, ho fr⟩, h2, h3⟩
  obtain ⟨sF, hsF⟩ : ∃ sF : (Nat → Fr) → SState, ∀ fr, (∃ os, chainF P n ops (hintAt hs) fr (List.range' 0 L) ⟨look env, look mem⟩ = some (sF fr, os) ∧ All os) ∧
      (∀ t v, look (env' fr) t = some v → (sF fr).ρ t = some v) ∧ (∀ t v, look (mem' fr) t = some v → (sF fr).m t = some v) := ⟨fun fr => Classical.choose (hex fr), fun fr => Classical.choose_spec (hex fr)⟩
  refine Gm.of_wp (wpIn_region_any hm ?_)
  have key : wpAnyIn (Fw b.roundOf) 0 P .any ops (fun e a' w' => e = .normal ∧ wpAnyIn (Fw b.roundOf) 0 P .any ops (fun e a' w' => e = .normal ∧ Gm P b R k a' w') m (fillT L 0 (Array.replicate ops.size false)) a' w') L (fillT m L (Array.replicate ops.size false)) a { w with drawn := w.drawn + 1 } := by
    refine any_sound (hs := hintAt hs) (n := n) (w0 := w0) (S := S) L _ (fun _ => ⟨0, none, 0, [], fun _ _ => (none, 0)⟩) ⟨look env, look mem⟩ sF a _ hf (hw.drew _) (fun fr _ => ?_) ?_
    · obtain ⟨os, h1, h2⟩ := (hsF fr).1
      exact anyF_lex L 0 _ _ os hB h1 h2
    · intro fr a' w' hf' hw'
      exact ⟨rfl, h fr a' w' (hf'.less (hsF fr).2.1) (hw'.less (hsF fr).2.2)⟩
  have := any_splitC (Q := fun e a' w' => e = .normal ∧ Gm P b R k a' w') (LA := fillT L 0 (Array.replicate ops.size false)) (L := L) (m := m) (fun e he a w q => absurd q.1 he) (fun a w q => q.2) L _ a _ hl key
  rw [← hsz] at this
  exact this
end

/-! ### Shorter texts -/

@[reducible] def pA (b o : Nat) : Value := .pointer (some ⟨b, o, none⟩)
@[reducible] def vI (z : Int) : Value := .int .i64 z
@[reducible] def oW (z : Int) : Prop := (.int .i64 (IntKind.i64.wrap z) : Value) = .int .i64 z
section
variable {P : Program} {b : Frame} {n : Nat} {w0 : World} {S : Area} {R : Ending → World → Prop} {k : List Item} {env : List (Nat × Value)} {mem : List (Nat × Ent)} {ops : Array Oper}
theorem GS.rM {id : Nat} {draw : Bool} {env' : (Nat → Fr) → List (Nat × Value)} (hr : RunsTo P n ops draw 0 ops.size env mem env' (fun _ => mem))
    (h : ∀ fr, GS P b n w0 S R k (env' fr) mem) : GS P b n w0 S R (.code (.region id ops draw) :: k) env mem := GS.region hr h
theorem GR.rM {i : Nat} (g : Nat) {env' : (Nat → Fr) → List (Nat × Value)} (hg : Nat.ble (i + g) ops.size = true) (hr : RunsTo P n ops false i g env mem env' (fun _ => mem))
    (h : ∀ fr, GR P b n w0 S R ops (i + g) k (env' fr) mem) : GR P b n w0 S R ops i k env mem := GR.run g (Nat.le_of_ble_eq_true hg) hr h
theorem GR.ru {i : Nat} (g : Nat) {env' : (Nat → Fr) → List (Nat × Value)} {mem' : (Nat → Fr) → List (Nat × Ent)} (hg : Nat.ble (i + g) ops.size = true) (hr : RunsTo P n ops false i g env mem env' mem')
    (h : ∀ fr, GR P b n w0 S R ops (i + g) k (env' fr) (mem' fr)) : GR P b n w0 S R ops i k env mem := GR.run g (Nat.le_of_ble_eq_true hg) hr h
theorem GR.dn {i : Nat} (hi : Nat.ble ops.size i = true) (h : GS P b n w0 S R k env mem) : GR P b n w0 S R ops i k env mem := GR.done (Nat.le_of_ble_eq_true hi) h
end
end Sx

set_option linter.unusedVariables false
set_option linter.unusedSimpArgs false
set_option maxRecDepth 100000
namespace Sx
open Go Go.RowKit

section
variable {P : Program} {b : Frame} {n : Nat} {w0 : World} {S : Area} {R : Ending → World → Prop} {k : List Item} {env : List (Nat × Value)} {mem : List (Nat × Ent)} {ops : Array Oper}

/-- What is asked of the operation's place. -/
def locOK (n : Nat) (ops : Array Oper) (env : List (Nat × Value)) (i : Nat) : Bool :=
  dstIn n (ops.getD i default).dst && notSelect (ops.getD i default).op && ((ops.getD i default).op.operands.toList.all (knows (look env))) && (match wantedS ops (look env) (ops.getD i default) with | some b => b | none => false)

/-- One operation, whose run is told. -/
theorem GR.prim {X : Type} {i : Nat} {v : X → Value} {mem' : X → List (Nat × Ent)} {env' : X → List (Nat × Value)} (live : List Nat) (hi : Nat.blt i ops.size = true) (hloc : locOK n ops env i = true)
    (hrun : ∀ w, Sat w0 S (look mem) w → ∃ x w', (execOp (val (look env)) (ops.getD i default)).run P w = .ok (.value (v x)) w' ∧ Sat w0 S (look (mem' x)) w')
    (henv : ∀ x, envOut live (put (look env) (ops.getD i default).dst (v x)) = some (env' x))
    (h : ∀ x, GR P b n w0 S R ops (i + 1) k (env' x) (mem' x)) : GR P b n w0 S R ops i k env mem := by
  simp only [locOK, Bool.and_eq_true] at hloc
  obtain ⟨⟨⟨h1, h2⟩, h3⟩, h4⟩ := hloc
  have hlt : i < ops.size := by simpa [Nat.blt_eq] using hi
  have ho : ops[i]? = some (ops.getD i default) := by
    rw [Array.getD, dif_pos hlt, Array.getElem?_eq_getElem hlt]; rfl
  have hwt : wantedS ops (look env) (ops.getD i default) = some true := by
    cases hw : wantedS ops (look env) (ops.getD i default) with
    | none => rw [hw] at h4; simp at h4
    | some b => rw [hw] at h4; simp at h4; rw [h4]
  intro a w hf hw
  have hσ : execOp a.eval (ops.getD i default) = execOp (val (look env)) (ops.getD i default) := execOp_congr _ (fun cs b hc => by rw [hc] at h2; simp [notSelect] at h2) fun x hx => hf.eval (List.all_eq_true.1 h3 x (by simpa using hx))
  rw [show ops.size - i = (ops.size - (i + 1)) + 1 by omega, List.range'_succ, wpOpsIn_cons]
  unfold wpOpIn
  simp only [ho, wantedS_sound hf hwt, if_true]
  refine wp_in (fun c hc => by rw [hc] at h2; cases h2) ?_
  obtain ⟨x, w', hr, hs⟩ := hrun w hw
  unfold Oper.wp
  rw [hσ, hr, Oper.upon_value]
  refine h x _ w' ?_ hs
  exact (hf.put (fun t ht => by rw [ht] at h1; simpa [dstIn] using h1) (v x)).less (envOut_look live (henv x))

theorem GA.prim {X : Type} {i m : Nat} {listed : Array Bool} {v : X → Value} {mem' : X → List (Nat × Ent)} {env' : X → List (Nat × Value)} (live : List Nat)
    (hrd : (Region.ready .any ops listed == [i]) = true) (hi : Nat.blt i ops.size = true) (hloc : locOK n ops env i = true)
    (hrun : ∀ w, Sat w0 S (look mem) w → ∃ x w', (execOp (val (look env)) (ops.getD i default)).run P w = .ok (.value (v x)) w' ∧ Sat w0 S (look (mem' x)) w')
    (henv : ∀ x, envOut live (put (look env) (ops.getD i default).dst (v x)) = some (env' x))
    (h : ∀ x, GA P b n w0 S R ops m (listed.setIfInBounds i true) k (env' x) (mem' x)) : GA P b n w0 S R ops (m + 1) listed k env mem := by
  simp only [locOK, Bool.and_eq_true] at hloc
  obtain ⟨⟨⟨h1, h2⟩, h3⟩, h4⟩ := hloc
  have hlt : i < ops.size := by simpa [Nat.blt_eq] using hi
  have ho : ops[i]? = some (ops.getD i default) := by
    rw [Array.getD, dif_pos hlt, Array.getElem?_eq_getElem hlt]; rfl
  have hwt : wantedS ops (look env) (ops.getD i default) = some true := by
    cases hw : wantedS ops (look env) (ops.getD i default) with
    | none => rw [hw] at h4; simp at h4
    | some b => rw [hw] at h4; simp at h4; rw [h4]
  have hready : Region.ready .any ops listed = [i] := eq_of_beq hrd
  intro a w hf hw
  refine ⟨fun e => (by rw [hready] at e; cases e), fun j hj => ?_⟩
  rw [hready] at hj
  obtain rfl := List.mem_singleton.1 hj
  have hσ : execOp a.eval (ops.getD j default) = execOp (val (look env)) (ops.getD j default) := execOp_congr _ (fun cs b hc => by rw [hc] at h2; simp [notSelect] at h2) fun x hx => hf.eval (List.all_eq_true.1 h3 x (by simpa using hx))
  unfold wpOpIn
  simp only [ho, wantedS_sound hf hwt, if_true]
  refine wp_in (fun c hc => by rw [hc] at h2; cases h2) ?_
  obtain ⟨x, w', hr, hs⟩ := hrun w hw
  unfold Oper.wp
  rw [hσ, hr, Oper.upon_value]
  refine h x _ w' ?_ hs
  exact (hf.put (fun t ht => by rw [ht] at h1; simpa [dstIn] using h1) (v x)).less (envOut_look live (henv x))

theorem GS.setMemE {X : Type} {mem' : X → List (Nat × Ent)} (hm : ∀ w, Sat w0 S (look mem) w → ∃ x, Sat w0 S (look (mem' x)) w) (h : ∀ x, GS P b n w0 S R k env (mem' x)) : GS P b n w0 S R k env mem :=
  fun a w hf hw => (hm w hw).elim fun x hx => h x a w hf hx
end

theorem exec_append {P : Program} {σ : Operand → Value} {o : Oper} {s y : Operand} {st yt : TypeId} {v : Value} {w w' : World} (hop : o.op = .call ⟨.builtin .append, #[s, y], #[st, yt]⟩)
    (hr : (Builtin.append_ #[st, yt] o.type #[σ s, σ y]).run P w = .ok v w') : (execOp σ o).run P w = .ok (.value v) w' := by
  simp [execOp, hop, resolve, invoke, builtin, hr]
theorem exec_copy {P : Program} {σ : Operand → Value} {o : Oper} {s y : Operand} {st yt : TypeId} {v : Value} {w w' : World} (hop : o.op = .call ⟨.builtin .copy, #[s, y], #[st, yt]⟩)
    (hr : (Builtin.copy_ #[st, yt] o.type #[σ s, σ y]).run P w = .ok v w') : (execOp σ o).run P w = .ok (.value v) w' := by
  simp [execOp, hop, resolve, invoke, builtin, hr]

/-! ### append of zeros -/

theorem zeroCells_rep (c : Array Value) : ∀ m, (Builtin.zeroCells c m).toList = (List.replicate m c.toList).flatten := by
  intro m
  have h0 : ∀ k, (Builtin.zeroCells c k).toList = (List.range (k * c.size)).map fun i => c[i % c.size]! := fun k => by simp [Builtin.zeroCells]
  induction m with
  | zero => rw [h0]; simp
  | succ m ih =>
    rw [h0] at ih ⊢
    rw [List.replicate_succ', List.flatten_append, ← ih, Nat.succ_mul, List.range_add, List.map_append]
    congr 1
    rw [List.map_map]
    refine List.ext_getElem (by simp) fun i h1 h2 => ?_
    simp only [List.length_map, List.length_range] at h1
    simp [Nat.mul_add_mod_of_lt h1, Nat.mod_eq_of_lt h1, h1]

theorem run_appendZ {P : Program} {st yt ty elem : TypeId} {kn ki : IntKind} {ob : Option Addr} {cap m : Nat} {rows : List (List Value)} {sz by_ : Nat} {z : List Value} {w : World}
    (hu : P.underlying st = some (.slice elem)) (hyt : P.underlying yt = some (.int kn)) (hs : sizeOfT P elem = some sz) (hb : bytesT P elem = some by_) (hz : zeroT P elem = some z) (hzl : z.length = sz) (hsz1 : 1 ≤ sz) (hby : by_ ≤ 1000000)
    (hmine : rows ≠ [] → ∃ a, ob = some a ∧ a.spot = none ∧ RowsAt w a sz rows) (hm : 1 ≤ m) (hfit : cap < rows.length + m) (hroom : (rows.length + m) * (by_ + 1) ≤ 70368744177664) :
    ∃ (ob' : Option Addr) (cap' : Nat) (w' : World), (Builtin.append_ #[st, yt] ty #[.slice ob rows.length cap, .int ki (m : Int)]).run P w = .ok (.slice ob' (rows.length + m) cap') w' ∧
      Eff none (some (.osl ob' cap' elem sz (rows ++ List.replicate m z))) w w' := by
  obtain ⟨inf, hinf, hib⟩ := run_bytesT hb w
  have hinf' : ∀ w, (typeInfo elem).run P w = .ok inf w := fun w => by
    cases hi : P.info? elem with
    | none => simp [bytesT, hi] at hb
    | some i =>
      have h2 : ∀ w0 : World, (typeInfo elem).run P w0 = .ok i w0 := fun w0 => by simp [typeInfo, hi]
      have h3 := hinf
      rw [h2] at h3
      simp only [Result.ok.injEq, and_true] at h3
      subst h3
      exact h2 w
  have hneed : rows.length + m ≤ 70368744177664 := by
    have := Nat.le_mul_of_pos_right (rows.length + m) (show 0 < by_ + 1 by omega)
    omega
  have hrl : ∀ r ∈ rows, r.length = sz := fun r hr => by
    obtain ⟨a, _, _, hR⟩ := hmine (fun e => by rw [e] at hr; cases hr)
    exact hR.lens r hr
  have hcap : ¬ rows.length + m ≤ cap := by omega
  have hns := nextslicecap_le (rows.length + m) cap hfit
  have h3 : (rows.length + m) * by_ ≤ (rows.length + m) * (by_ + 1) := Nat.mul_le_mul_left _ (by omega)
  have hlim : ¬ (Builtin.nextslicecap (rows.length + m) cap * inf.bytes > 2 ^ 48) := by
    rw [hib]
    have h1 : Builtin.nextslicecap (rows.length + m) cap * by_ ≤ (2 * (rows.length + m) + 200) * by_ := Nat.mul_le_mul_right _ hns
    have h2 : (2 * (rows.length + m) + 200) * by_ = 2 * ((rows.length + m) * by_) + 200 * by_ := by rw [Nat.add_mul, Nat.mul_assoc]
    have : (2 : Nat) ^ 48 = 281474976710656 := by decide
    omega
  have hlim0 : ¬ ((m : Int) * (inf.bytes : Int) > 2 ^ 48) := by
    rw [hib]
    have h1 : m * by_ ≤ (rows.length + m) * by_ := Nat.mul_le_mul_right _ (by omega)
    have : (2 : Int) ^ 48 = 281474976710656 := by decide
    rw [this, ← Int.natCast_mul]
    omega
  have hmax : ¬ (((rows.length + m : Nat) : Int) > IntKind.i64.max) := by
    have : IntKind.i64.max = 9223372036854775807 := by decide
    omega
  have hwr : IntKind.i64.wrap (m : Int) = (m : Int) := wrap_i64 (by omega) (by omega)
  have hneg : ¬ ((m : Int) < 0) := by omega
  have hms : ¬ (m * sz = 0) := Nat.mul_ne_zero (by omega) (by omega)
  obtain ⟨zv, hzv, hzc⟩ := run_zeroT hz { w with drawn := w.drawn + 1 }
  have hzs : zv.cells.size = sz := by rw [← hzl, ← hzc]; simp
  let q : Question := .appendCap (rows.length + m) cap elem
  let nc := q.cut (w.tape w.drawn q)
  have hnc : rows.length + m ≤ nc := by
    show rows.length + m ≤ (rows.length + m) + _
    omega
  have hq : (choose (.appendCap (rows.length + m) cap elem)).run P w = .ok nc { w with drawn := w.drawn + 1 } := by
    simp [choose, Sem.run, Question.forced, nc, q]
  have hold : (Builtin.firstCells sz rows.length (.slice ob rows.length cap)).run P { w with drawn := w.drawn + 1 } = .ok rows.flatten.toArray { w with drawn := w.drawn + 1 } := by
    by_cases hc : rows = []
    · rw [hc]
      cases ob <;> simp [Builtin.firstCells, loadCells, loadCellsFrom]
    · obtain ⟨a, rfl, hsp, hR⟩ := hmine hc
      have hl := run_loadCells_list (P := P) { w with drawn := w.drawn + 1 } a rows.flatten (fun j u hj => by
        have := hR.flat j u hj
        obtain ⟨b, o, sp⟩ := a
        simp only at hsp
        subst hsp
        rw [add_plain]
        exact this)
      rw [flatten_len hrl] at hl
      simp only [Builtin.firstCells]
      exact hl
  let new := Builtin.zeroCells zv.cells m
  let rest := Builtin.zeroCells zv.cells (nc - (rows.length + m))
  let arr := rows.flatten.toArray ++ new ++ rest
  have hnew : new.toList = (List.replicate m z).flatten := by rw [← hzc]; exact zeroCells_rep _ _
  have hnl : ∀ r ∈ List.replicate m z, r.length = sz := fun r hr => by rw [List.eq_of_mem_replicate hr]; exact hzl
  have hrest : rest.size = (nc - (rows.length + m)) * sz := by simp [rest, Builtin.zeroCells, hzs]
  have hns2 : new.size = m * sz := by simp [new, Builtin.zeroCells, hzs]
  have hrfl : rows.flatten.length = rows.length * sz := flatten_len hrl
  have harr : arr.size = nc * sz := by
    have e : nc = rows.length + m + (nc - (rows.length + m)) := by omega
    have : nc * sz = rows.length * sz + m * sz + (nc - (rows.length + m)) * sz := by
      rw [← Nat.add_mul, ← Nat.add_mul, ← e]
    simp only [arr, Array.size_append, hrest, hns2, List.size_toArray, hrfl]
    omega
  refine ⟨some ⟨w.heap.size, 0, none⟩, nc, { w with drawn := w.drawn + 1, heap := w.heap.push (.cells arr elem (0, 0)) }, ?_, ⟨?_, ?_, ?_⟩⟩
  · unfold Builtin.append_
    simp only [List.getElem?_toArray, List.getElem?_cons_zero, List.getElem?_cons_succ, Sem.run_bind, run_underlying hu, run_underlying hyt, Result.andThen_ok, run_sizeT hs, Sem.run_pure, if_true, asInt, asIntOf, hwr, hneg, if_false, hinf', hlim0, Int.toNat_natCast, hcap, hmax, false_and, hlim, hq, run_askRoom, hold, Bool.not_true, Bool.false_eq_true, hms, hzv, newRow, run_newObj]
    rfl
  · refine ⟨rfl, rfl, rfl, ?_, fun b hb _ => ?_⟩
    · show w.heap.size ≤ (w.heap.push _).size
      simp
    · show (w.heap.push _)[b]? = _
      rw [Array.getElem?_push, if_neg (by omega)]
  · intro E hE
    cases hE
    have hrow : RowIn { w with drawn := w.drawn + 1, heap := w.heap.push (.cells arr elem (0, 0)) } w.heap.size arr elem :=
      ⟨0, 0, by show (w.heap.push _)[w.heap.size]? = _; simp, Nat.le_refl _, (fun i _ h => by omega), .inl rfl⟩
    refine ⟨⟨by simp only [List.length_append, List.length_replicate]; exact hnc, fun _ => ⟨_, arr, rfl, rfl, hrow, by simp [harr], ?_⟩⟩, fun b hb => ?_⟩
    · refine RowsAt.of_flat rfl (fun r hr => ?_) fun j u hj => ?_
      · rcases List.mem_append.1 hr with h | h
        · exact hrl r h
        · exact hnl r h
      · rw [hrow.cell]
        rw [List.flatten_append, ← hnew] at hj
        have hjl : j < (rows.flatten ++ new.toList).length := by
          rcases Nat.lt_or_ge j (rows.flatten ++ new.toList).length with h | h
          · exact h
          · rw [List.getElem?_eq_none h] at hj; cases hj
        simp only [Nat.zero_add]
        have e : arr.toList = (rows.flatten ++ new.toList) ++ rest.toList := by simp [arr]
        rw [← Array.getElem?_toList, e, List.getElem?_append_left hjl]
        exact hj
    · have : b = w.heap.size := hb.2
      subst this
      show w.heap.size < (w.heap.push _).size
      simp
  · intro E hE b hb
    cases hE
    exact .inl (Nat.le_of_eq (Eq.symm hb.2))

/-! ### copy within an own slice -/

theorem run_copySelf {P : Program} {st yt ty elem : TypeId} {ob : Option Addr} {cap T sz l j dc sc : Nat} {rows : List (List Value)} {w : World} (hu : P.underlying st = some (.slice elem)) (hs : sizeOfT P elem = some sz)
    (he : (Ent.osl ob cap T sz rows).ok w) (hl : l < rows.length) (hj : j ≤ l) (hone : ((rows.drop j).take (rows.length - l)).flatten.all Value.oneCell' = true) :
    ∃ w', (Builtin.copy_ #[st, yt] ty #[.slice (cutOb ob l cap sz) (rows.length - l) dc, .slice (cutOb ob j cap sz) (rows.length - j) sc]).run P w = .ok (.int .i64 ((rows.length - l : Nat) : Int)) w' ∧
      Eff (some (.osl ob cap T sz rows)) (some (.osl ob cap T sz (rows.take l ++ (rows.drop j).take (rows.length - l)))) w w' := by
  have hok := he.1
  have hcap : cap ≠ 0 := by have := hok.1; omega
  obtain ⟨a, arr, rfl, hsp, hrow, hsize, hR⟩ := hok.2 hcap
  obtain ⟨ab, ao, asp⟩ := a
  simp only at hsp hrow hsize
  subst hsp
  have hcl : cap ≠ l := by have := hok.1; omega
  have hcj : cap ≠ j := by have := hok.1; omega
  have hcut : cutOb (some ⟨ab, ao, none⟩) l cap sz = some ⟨ab, ao + l * sz, none⟩ := by unfold cutOb; rw [if_neg hcl, Option.map_some, add_plain]
  have hcut2 : cutOb (some ⟨ab, ao, none⟩) j cap sz = some ⟨ab, ao + j * sz, none⟩ := by unfold cutOb; rw [if_neg hcj, Option.map_some, add_plain]
  generalize hsrc : (rows.drop j).take (rows.length - l) = src at hone ⊢
  have hsl : src.length = rows.length - l := by rw [← hsrc]; simp; omega
  have hS : RowsAt w ⟨ab, ao + j * sz, none⟩ sz src := by rw [← hsrc]; exact hR.cut
  have hfl : src.flatten.length = src.length * sz := flatten_len hS.lens
  have hfirst : (Builtin.firstCells sz (rows.length - l) (.slice (some ⟨ab, ao + j * sz, none⟩) (rows.length - j) sc)).run P w = .ok src.flatten.toArray w := by
    have hl := run_loadCells_list (P := P) w ⟨ab, ao + j * sz, none⟩ src.flatten (fun i u hi => by rw [add_plain]; exact hS.flat i u hi)
    rw [hfl, hsl] at hl
    simp only [Builtin.firstCells]
    exact hl
  have hmul : (l + src.length) * sz ≤ cap * sz := Nat.mul_le_mul_right _ (by have := hok.1; omega)
  rw [Nat.add_mul] at hmul
  have hst := run_storeCells_in P ab (ao + l * sz) T src.flatten 0 arr w hrow (by omega) (fun u hu => List.all_eq_true.1 hone u hu)
  simp only [Nat.add_zero] at hst
  have hal : arr.toList.length = arr.size := by simp
  have hrow' := hrow.setRow (arr' := (splice arr.toList (ao + l * sz) src.flatten).toArray) (by simp only [List.size_toArray]; rw [splice_length (by omega)]; exact hal)
  have hmin : Nat.min (rows.length - j) (rows.length - l) = rows.length - l := Nat.min_eq_right (by omega)
  have hlen : (Builtin.lenOf (.slice (some ⟨ab, ao + j * sz, none⟩) (rows.length - j) sc)).run P w = .ok (rows.length - j) w := by simp [Builtin.lenOf]
  refine ⟨w.setRow ab (splice arr.toList (ao + l * sz) src.flatten).toArray, ?_, ?_, ?_, ?_⟩
  · rw [hcut, hcut2]
    simp [Builtin.copy_, run_underlying hu, hlen, run_sizeT hs, hmin, hfirst, hst, goInt]
  · exact setRow_keep.mono fun k _ hk => ⟨_, rfl, rfl, hcap, hk⟩
  · intro E hE
    cases hE
    have hlens : ∀ r ∈ rows.take l ++ src, r.length = sz := fun r hr => by
      rcases List.mem_append.1 hr with h' | h'
      · exact hR.lens r (List.mem_of_mem_take h')
      · exact hS.lens r h'
    have htot : (rows.take l ++ src).length = rows.length := by simp; omega
    refine ⟨⟨by rw [htot]; exact hok.1, fun _ => ⟨_, _, rfl, rfl, hrow', by simp only [List.size_toArray]; rw [splice_length (by omega)]; simpa using hsize, ?_⟩⟩, fun b hb => by simpa using he.2 b hb⟩
    refine RowsAt.of_flat rfl hlens fun i u hi => ?_
    rw [hrow'.cell]
    show (splice arr.toList (ao + l * sz) src.flatten).toArray[ao + i]? = some u
    rw [List.getElem?_toArray, splice_at (by omega)]
    have htk : (rows.take l).flatten.length = l * sz := by
      have := flatten_len (sz := sz) (fun r hr => hR.lens r (List.mem_of_mem_take (i := l) hr))
      rw [this, List.length_take, Nat.min_eq_left (by omega)]
    have hold : ∀ i u, rows.flatten[i]? = some u → arr.toList[ao + i]? = some u := fun i u hi => by
      have := hR.flat i u hi
      rw [hrow.cell] at this
      simpa using this
    rw [List.flatten_append] at hi
    by_cases h1 : i < l * sz
    · rw [List.getElem?_append_left (by omega)] at hi
      rw [if_pos (by omega)]
      refine hold i u ?_
      have e : rows.flatten = (rows.take l).flatten ++ (rows.drop l).flatten := by rw [← List.flatten_append, List.take_append_drop]
      rw [e, List.getElem?_append_left (by omega)]; exact hi
    · rw [List.getElem?_append_right (by omega), htk] at hi
      have h2 : i - l * sz < src.flatten.length := by
        rcases Nat.lt_or_ge (i - l * sz) src.flatten.length with h | h
        · exact h
        · rw [List.getElem?_eq_none h] at hi; cases hi
      rw [if_neg (by omega), if_pos (by omega), ← hi]
      congr 1
      omega
  · intro E hE b hb
    cases hE
    exact .inr ⟨_, rfl, hb, id⟩

/-! ### A row behind the end -/

theorem osl_more {ob : Option Addr} {cap T sz : Nat} {rows : List (List Value)} {w : World} (h : (Ent.osl ob cap T sz rows).ok w) (hr : rows.length < cap) : ∃ r : List Value, (Ent.osl ob cap T sz (rows ++ [r])).ok w := by
  obtain ⟨a, arr, rfl, hsp, hrow, hsize, hR⟩ := h.1.2 (by omega)
  refine ⟨(arr.toList.drop (a.off + rows.length * sz)).take sz, ⟨by simp; omega, fun _ => ⟨a, arr, rfl, hsp, hrow, hsize, ?_⟩⟩, h.2⟩
  intro i r hi
  rcases Nat.lt_or_ge i rows.length with hl | hl
  · rw [List.getElem?_append_left hl] at hi
    exact hR i r hi
  · rw [List.getElem?_append_right hl] at hi
    have h0 : i - rows.length = 0 := by
      rcases Nat.eq_zero_or_pos (i - rows.length) with h | h
      · exact h
      · rw [List.getElem?_eq_none (by simp; omega)] at hi; cases hi
    rw [h0] at hi
    simp only [List.getElem?_cons_zero, Option.some.injEq] at hi
    subst hi
    have hii : i = rows.length := by omega
    subst hii
    have hmul : (rows.length + 1) * sz ≤ cap * sz := Nat.mul_le_mul_right _ (by omega)
    rw [Nat.add_mul, Nat.one_mul] at hmul
    refine ⟨by simp; omega, fun c v hv => ?_⟩
    rw [hrow.cell]
    rw [List.getElem?_take] at hv
    split at hv
    · rw [List.getElem?_drop] at hv
      rw [← Array.getElem?_toList, ← hv]
      congr 1
      omega
    · cases hv

/-! ### slices.overlaps -/

theorem run_apart {P : Program} {f : FuncId} {fn : Func} {tS tR e : TypeId} {w : World} (hf : P.funcs[f]? = some fn) (hname : (fn.name == "runtime.NumGoroutine") = false) (hb : fn.body.isNone = true) (hn : Extern.findNext fn = none)
    (hx : Extern.find fn = some (Extern.SlicesOverlaps.overlaps #[tS, tS] #[tR])) (ht : P.underlying tS = some (.slice e)) {size : Nat} (hz : sizeOfT P e = some size)
    {ob vob : Option Addr} {cap vcap T T' sz l la ca lb cb : Nat} {rows vrows : List (List Value)} (hs1 : 1 ≤ sz) (hT : T' ≠ byteT) (h1 : (Ent.osl ob cap T sz rows).ok w) (h2 : (Ent.osl vob vcap T' sz vrows).ok w) (hc : cap ≠ 0) (hvc : vcap ≠ 0)
    (hap : ∀ b, (Ent.osl ob cap T sz rows).foot b → ¬ (Ent.osl vob vcap T' sz vrows).foot b) :
    (callFunc f #[.slice vob la ca, .slice (cutOb ob l cap sz) lb cb]).run P w = .ok (.value (.bool false)) w := by
  obtain ⟨a, arr, rfl, hsp, hrow, hsize, hR⟩ := h1.1.2 hc
  obtain ⟨v, varr, rfl, hvsp, hvrow, hvsize, hvR⟩ := h2.1.2 hvc
  have hne : v.block ≠ a.block := fun e => hap a.block ⟨hc, rfl⟩ ⟨hvc, e.symm⟩
  have h1c : 1 * 1 ≤ cap * sz := Nat.mul_le_mul (by omega) hs1
  have h2c : 1 * 1 ≤ vcap * sz := Nat.mul_le_mul (by omega) hs1
  have hcut : ∃ a' : Addr, cutOb (some a) l cap sz = some a' ∧ a'.block = a.block := by
    unfold cutOb
    obtain ⟨ab, ao, asp⟩ := a
    simp only at hsp
    subst hsp
    split
    · exact ⟨_, rfl, rfl⟩
    · exact ⟨_, rfl, by show (Addr.add ⟨ab, ao, none⟩ (l * sz)).block = ab; rw [add_plain]⟩
  obtain ⟨a', ha', hblk⟩ := hcut
  have hsh : w.shape? v.block = some (T', varr.size) := by
    obtain ⟨lo, hi, g1, _⟩ := hvrow
    unfold World.shape?; rw [g1]
  have hsh2 : w.shape? a'.block = some (T, arr.size) := by
    obtain ⟨lo, hi, g1, _⟩ := hrow
    unfold World.shape?; rw [hblk, g1]
  have hfr : ∀ o, w.frozen? ⟨v.block, o, none⟩ = false := fun o => by
    obtain ⟨lo, hi, g1, g2, g3, g4⟩ := hvrow
    have := g4.resolve_right hT
    subst this
    simp only [World.frozen?, g1]
    simp
  have hve : v = ⟨v.block, v.off, none⟩ := by cases v; simp only at hvsp; subst hvsp; rfl
  rw [run_callFunc_extern hf hname hb hn hx, ha', Lib.run_overlaps_apart w tS tR e ht size (run_sizeT hz) v a' la ca lb cb (by rw [hblk]; exact hne) _ _ _ _ hsh hsh2 (by omega) (by rw [hve]; exact hfr _) (hfr _)]
  rfl

theorem exec_func {P : Program} {σ : Operand → Value} {o : Oper} {f : FuncId} {x y : Operand} {st yt : TypeId} {v : Value} {w w' : World} (hop : o.op = .call ⟨.value (.func f), #[x, y], #[st, yt]⟩)
    (hσ : σ (.func f) = .func (.func f) #[] #[]) (hr : (callFunc f #[σ x, σ y]).run P w = .ok (.value v) w') : (execOp σ o).run P w = .ok (.value v) w' := by
  simp [execOp, hop, resolve, invoke, hσ, hr, Deferred.ofValue]

/-! ### Regions, in short: what they ask is shown by the way -/
section
variable {P : Program} {b : Frame} {n : Nat} {w0 : World} {S : Area} {R : Ending → World → Prop} {k : List Item} {env : List (Nat × Value)} {mem : List (Nat × Ent)} {ops : Array Oper}
def fr0 : Nat → Fr := fun _ => ⟨0, none, 0, [], fun _ _ => (none, 0)⟩
end

end Sx

set_option linter.unusedVariables false
namespace Sx
open Go Go.RowKit

theorem CallG.fT {P : Program} {g : FuncId} {args : Array Value} {X : Type} {c : Bool} {v1 v2 : X → Value} {own ro : List Ent} {e1 e2 : X → List Ent} (h : c = true)
    (H : CallG P g args (fun x => bif c then v1 x else v2 x) own ro (fun x => bif c then e1 x else e2 x)) : CallG P g args v1 own ro e1 := by
  subst h; exact H
theorem CallG.fF {P : Program} {g : FuncId} {args : Array Value} {X : Type} {c : Bool} {v1 v2 : X → Value} {own ro : List Ent} {e1 e2 : X → List Ent} (h : c = false)
    (H : CallG P g args (fun x => bif c then v1 x else v2 x) own ro (fun x => bif c then e1 x else e2 x)) : CallG P g args v2 own ro e2 := by
  subst h; exact H

/-- What is read of a list's elements' slices, and of one more element's. -/
theorem nest_snocR {α : Type} {J : Hd → α → List Ent} {h : Nat → Hd} {L : List α} {g : Hd} {x : α} {es : List Ent} (he : J g x = es) : Cov (Ent.all (Ent.all (nins J h L) :: es)) (Ent.all (nins J (glueH L.length h (fun _ => g)) (L ++ [x]))) := by
  rw [← nins_app, show nins J (fun _ => g) [x] = es from by rw [nins, nins, he, List.append_nil]]
  have h1 : ∀ w, (Ent.all (Ent.all (nins J h L) :: es)).ok w → (Ent.all (nins J h L)).ok w := fun w hw => (Cov.all_mem (.head _)).1 w hw
  refine ⟨fun w hw => Ent.all_ok fun e hm => ?_, fun w hw b ⟨e, hm, hb⟩ => ?_⟩
  · rcases List.mem_append.1 hm with hm | hm
    · exact (Cov.all_mem hm).1 w (h1 w hw)
    · exact (Cov.all_mem (.tail _ hm)).1 w hw
  · rcases List.mem_append.1 hm with hm | hm
    · exact ⟨_, .head _, e, hm, hb⟩
    · exact ⟨e, .tail _ hm, hb⟩

end Sx

