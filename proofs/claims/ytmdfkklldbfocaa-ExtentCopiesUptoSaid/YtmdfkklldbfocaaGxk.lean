/-
  Models, part 11: what several read at once, owned; entries that a call borrows.
-/
import Derived.Test.YtmdfkklldbfocaaGxj
set_option linter.unusedVariables false
set_option linter.unusedSimpArgs false
namespace Sx
open Go Go.RowKit

/-- Entries that are read, all of them one's own. -/
@[reducible] def Ent.mine (es : List Ent) : Ent := .say true (fun b => ∃ e ∈ es, e.foot b) (fun w => ∀ e ∈ es, e.holds w) (fun _ _ h hw e he => Ent.holds_of_same (fun b hb => h b ⟨e, he, hb⟩) (hw e he))
theorem mine_all {es : List Ent} {w : World} : (Ent.mine es).ok w ↔ (Ent.all es).ok w := ⟨fun h => ⟨h.1, h.2⟩, fun h => ⟨h.1, h.2⟩⟩
theorem Cov.mine {es : List Ent} : Cov (Ent.mine es) (Ent.all es) := ⟨fun _ h => mine_all.1 h, fun _ _ _ h => h⟩
theorem Cov.bag_mine {es es' : List Ent} (h : Cov (bag es) (Ent.all es')) : Cov (bag es) (Ent.mine es') := ⟨fun w hw => mine_all.2 (h.1 w hw), fun w hw b hb => h.2 w hw b hb⟩
theorem emp_mine {α : Type} {J : Hd → α → List Ent} {h : Hds} : Emp (Ent.mine (nins J h ([] : List α))) := ⟨rfl, (fun b ⟨e, he, _⟩ => by cases he), fun w => ⟨(fun e he => by cases he), fun b ⟨e, he, _⟩ => by cases he⟩⟩
theorem ch_nilM {α : Type} {w0 w : World} {S : Area} {mem mem' : List (Nat × Ent)} {T : Nat} {X : Hd → Value → α → List Value} {h h2 : Hds} {q : Option Addr} {k ik : Nat} {J : Hd → α → List Ent} (keys : List Nat) (hw : Sat w0 S (look mem) w)
    (hmem : memOut keys (look ((mem ++ [(k, bag (sgs T X h q ([] : List α)))]) ++ [(ik, Ent.mine (nins J h2 ([] : List α)))])) = some mem') : Sat w0 S (look mem') w :=
  (Sat.addEmp (Sat.addEmp hw emp_sgs rfl) emp_mine rfl).less (memOut_look keys hmem)

/-- A call that reads more than what it may hand back. -/
def CallB (P : Program) (g : FuncId) (args : Array Value) {X : Type} (v : X → Value) (own ro rb : List Ent) (es' : X → List Ent) : Prop :=
  ∀ w, GoodG own (ro ++ rb) w → Calls P g args w fun e w' => ∃ x, e = .returned (v x) ∧ TurnsG own ro (es' x) w w'

theorem GoodG.fst {own ro rb : List Ent} {w : World} (h : GoodG own (ro ++ rb) w) : GoodG own ro w :=
  ⟨h.ok, fun e he => h.rok e (List.mem_append.2 (.inl he)), h.apart, fun e he e' he' => h.rapart e he e' (List.mem_append.2 (.inl he'))⟩
theorem GoodG.lent {own ro rb : List Ent} {w : World} (h : GoodG own (ro ++ rb) w) {eb : Ent} (he : eb ∈ rb) : eb.ok w ∧ ∀ b, eb.foot b → ¬ (mayT own ro).turn b :=
  ⟨h.rok eb (List.mem_append.2 (.inr he)), fun b hb ⟨e, h1, h2⟩ => h.rapart e h1 eb (List.mem_append.2 (.inr he)) b h2 hb⟩

theorem RoAll.weak {m : Mem} {ks : List Nat} {al : Bool} : ∀ {ro : List Ent}, RoAll m ks al ro → RoAll m ks false ro
  | [], _ => trivial
  | _ :: _, ⟨.inl ⟨k, E, h1, h2, h3, _⟩, hr⟩ => ⟨.inl ⟨k, E, h1, h2, h3, fun h => by cases h⟩, hr.weak⟩
  | _ :: _, ⟨.inr h, hr⟩ => ⟨.inr h, hr.weak⟩
theorem RoAll.app {m : Mem} {ks : List Nat} {al : Bool} : ∀ {ro rb : List Ent}, RoAll m ks al ro → RoAll m ks al rb → RoAll m ks al (ro ++ rb)
  | [], _, _, h => h
  | _ :: _, _, ⟨h1, h2⟩, h => ⟨h1, h2.app h⟩

theorem GR.callB {P : Program} {b : Frame} {n : Nat} {w0 : World} {S : Area} {R : Ending → World → Prop} {k : List Item} {env : List (Nat × Value)} {mem : List (Nat × Ent)} {ops : Array Oper}
    {X : Type} {i : Nat} {g : FuncId} {args : Array Value} {v : X → Value} {mem' : X → List (Nat × Ent)} {env' : X → List (Nat × Value)} {own ro rb : List Ent} {es' : X → List Ent} (ks nk live keys : List Nat) (al : Bool)
    (hi : Nat.blt i ops.size = true)
    (hloc : (dstIn n (ops.getD i default).dst && notSelect (ops.getD i default).op && ((ops.getD i default).op.operands.toList.all (knows (look env))) && (match wantedS ops (look env) (ops.getD i default) with | some b => b | none => false)) = true)
    (hex : runPure P (execOp (val (look env)) (ops.getD i default)) = some (.enter g args))
    (hnd : (nodupB ks && nodupB nk && own.all Ent.own) = true) (hm : ks.map (look mem) = own.map some) (hlen : ∀ x, nk.length = (es' x).length)
    (hal : al = false → ∀ x, (es' x).all Ent.own = true)
    (hr : RoAll (look mem) ks al ro) (hb : RoAll (look mem) ks false rb)
    (hmem : ∀ x, memOut keys (setAll (dropKs (look mem) ks) nk (es' x)) = some (mem' x))
    (henv : ∀ x, envOut live (put (look env) (ops.getD i default).dst (v x)) = some (env' x))
    (hc : CallB P g args v own ro rb es')
    (h : ∀ x, GR P b n w0 S R ops (i + 1) k (env' x) (mem' x)) : GR P b n w0 S R ops i k env mem := by
  simp only [Bool.and_eq_true] at hloc hnd
  obtain ⟨⟨⟨h1, h2⟩, h3⟩, h4⟩ := hloc
  obtain ⟨⟨n1, n2⟩, n3⟩ := hnd
  have hlt : i < ops.size := by simpa [Nat.blt_eq] using hi
  have ho : ops[i]? = some (ops.getD i default) := by
    rw [Array.getD, dif_pos hlt, Array.getElem?_eq_getElem hlt]; rfl
  have hwt : wantedS ops (look env) (ops.getD i default) = some true := by
    cases hw : wantedS ops (look env) (ops.getD i default) with
    | none => rw [hw] at h4; simp at h4
    | some b => rw [hw] at h4; simp at h4; rw [h4]
  refine GR.call (X := X) (v := v) (mem' := mem') (env' := env') ho ⟨h1, h2, hwt, h3⟩ hex (fun w hw => ?_) (fun x => envOut_look live (henv x)) h
  have hg : GoodG own (ro ++ rb) w := hw.goodG (nodupB_spec n1) hm n3 (RoAll.app hr.weak hb)
  refine (hc w hg).mono fun e w' ⟨x, he, ht⟩ => ⟨x, he, ?_⟩
  have := hw.turnsG (nodupB_spec n2) hm n3 (hlen x) hr (fun ha => hal ha x) ht
  exact this.less (memOut_look keys (hmem x))

/-- Entries that are as they were, or one's own. -/
def SameK (m : Mem) (kb : Nat) : List (Nat × Ent) → Prop
  | [] => True
  | (t, e) :: l => (t = kb ∨ e.own = true ∨ m t = some e) ∧ SameK m kb l
theorem SameK.at {m : Mem} {kb : Nat} : ∀ {l : List (Nat × Ent)}, SameK m kb l → ∀ t e, look l t = some e → t = kb ∨ e.own = true ∨ m t = some e
  | [], _, t, e, h => by cases h
  | (t0, e0) :: l, ⟨h1, h2⟩, t, e, h => by
    unfold look at h
    split at h
    · rename_i he
      simp only [Option.some.injEq] at h
      have : t0 = t := by simpa using he
      subst this; subst h; exact h1
    · exact h2.at t e h

theorem look_filter {kb : Nat} : ∀ {l : List (Nat × Ent)} {t : Nat} {e : Ent}, look (l.filter (fun p => !Nat.beq p.1 kb)) t = some e → look l t = some e ∧ t ≠ kb
  | [], t, e, h => by cases h
  | (t0, e0) :: l, t, e, h => by
    rw [List.filter_cons] at h
    cases hk : Nat.beq t0 kb with
    | true =>
      rw [if_neg (show ¬ (!Nat.beq t0 kb) = true from by rw [hk]; simp)] at h
      obtain ⟨h1, h2⟩ := look_filter h
      refine ⟨?_, h2⟩
      have h3 : t0 = kb := Nat.eq_of_beq_eq_true hk
      have : Nat.beq t0 t = false := by
        cases hx : Nat.beq t0 t with
        | true => exact absurd ((Nat.eq_of_beq_eq_true hx).symm.trans h3) h2
        | false => rfl
      show (match Nat.beq t0 t with | true => some e0 | false => look l t) = some e
      rw [this]; exact h1
    | false =>
      rw [if_pos (show (!Nat.beq t0 kb) = true from by rw [hk]; rfl)] at h
      replace h : (match Nat.beq t0 t with | true => some e0 | false => look (l.filter (fun p => !Nat.beq p.1 kb)) t) = some e := h
      show (match Nat.beq t0 t with | true => some e0 | false => look l t) = some e ∧ t ≠ kb
      cases hx : Nat.beq t0 t with
      | true =>
        rw [hx] at h
        refine ⟨h, fun he => ?_⟩
        have : t0 = kb := (Nat.eq_of_beq_eq_true hx).trans he
        rw [this] at hk; rw [Nat.beq_refl] at hk; cases hk
      | false => rw [hx] at h; exact look_filter h

section
variable {P : Program} {b : Frame} {n : Nat} {w0 : World} {S : Area} {R : Ending → World → Prop} {k : List Item} {env : List (Nat × Value)} {mem : List (Nat × Ent)}

/-- A region that reads what was lent. -/
theorem GS.borrow {id : Nat} {ops : Array Oper} {draw : Bool} {kb : Nat} {eb : Ent} {env' : (Nat → Fr) → List (Nat × Value)} {mem2 : List (Nat × Ent)} {mem2' mem' : (Nat → Fr) → List (Nat × Ent)} (h0 : eb.ok w0) (hS : ∀ x, eb.foot x → ¬ S.turn x) (ho : eb.own = false)
    (hf : look mem kb = none) (hm2 : mem2 = mem ++ [(kb, eb)]) (hr : RunsTo P n ops draw 0 ops.size env mem2 env' mem2') (hsame : ∀ fr, SameK (look mem) kb (mem2' fr))
    (hres : ∀ fr, mem' fr = (mem2' fr).filter (fun p => !Nat.beq p.1 kb)) (h : ∀ fr, GS P b n w0 S R k (env' fr) (mem' fr)) : GS P b n w0 S R (.code (.region id ops draw) :: k) env mem := by
  subst hm2
  have hin : ∀ t e, look (mem ++ [(kb, eb)]) t = some e → look mem t = some e ∨ (t = kb ∧ e = eb) := fun t e ht => by
    rw [look_snoc] at ht
    split at ht
    · rename_i x hx; left; rw [hx, ← ht]
    · split at ht
      · rename_i hx; right; exact ⟨(by simpa using hx : kb = t).symm, by simpa using ht.symm⟩
      · cases ht
  intro a w hf' hw
  have hw2 : Sat w ⟨fun x => ∃ t e, look mem t = some e ∧ e.own = true ∧ e.foot x, fun x => (∃ t e, look mem t = some e ∧ e.foot x) ∨ eb.foot x⟩ (look (mem ++ [(kb, eb)])) w := by
    refine ⟨Keep.refl _ _, fun t e ht => ?_, fun t e ht hoe x hx => ?_, fun t t' e e' hne ht ht' hoe x hx hx' => ?_, fun t e ht x hx => ?_⟩
    · rcases hin t e ht with h1 | ⟨_, rfl⟩
      · exact hw.ok t e h1
      · exact Ent.ok_of_keep hw.keep hS h0
    · rcases hin t e ht with h1 | ⟨_, rfl⟩
      · exact .inr ⟨t, e, h1, hoe, hx⟩
      · rw [ho] at hoe; cases hoe
    · rcases hin t e ht with h1 | ⟨_, rfl⟩
      · rcases hin t' e' ht' with h2 | ⟨_, rfl⟩
        · exact hw.apart t t' e e' hne h1 h2 hoe x hx hx'
        · rcases hw.mine t e h1 hoe x hx with h3 | h3
          · have := h0.2 x hx'; omega
          · exact hS x hx' h3
      · rw [ho] at hoe; cases hoe
    · rcases hin t e ht with h1 | ⟨_, rfl⟩
      · exact .inr (.inl ⟨t, e, h1, hx⟩)
      · exact .inr (.inr hx)
  have back : ∀ fr w', Sat w ⟨fun x => ∃ t e, look mem t = some e ∧ e.own = true ∧ e.foot x, fun x => (∃ t e, look mem t = some e ∧ e.foot x) ∨ eb.foot x⟩ (look (mem2' fr)) w' → Sat w0 S (look (mem' fr)) w' := fun fr w' hw' => by
    have hsub : ∀ t e, look (mem' fr) t = some e → look (mem2' fr) t = some e ∧ t ≠ kb := fun t e ht => by
      rw [hres fr] at ht; exact look_filter ht
    have hturn : ∀ x, (∃ t e, look mem t = some e ∧ e.own = true ∧ e.foot x) → w0.heap.size ≤ x ∨ S.turn x := fun x ⟨t, e, h1, h2, h3⟩ => hw.mine t e h1 h2 x h3
    refine ⟨hw.keep.trans hw'.keep (fun x hx h1 => (hturn x h1).resolve_left (by omega)), fun t e ht => hw'.ok t e (hsub t e ht).1, fun t e ht hoe x hx => ?_, fun t t' e e' hne ht ht' => hw'.apart t t' e e' hne (hsub t e ht).1 (hsub t' e' ht').1, fun t e ht x hx => ?_⟩
    · rcases hw'.mine t e (hsub t e ht).1 hoe x hx with h1 | h1
      · exact .inl (Nat.le_trans hw.keep.size h1)
      · exact hturn x h1
    · obtain ⟨h1, h2⟩ := hsub t e ht
      rcases (hsame fr).at t e h1 with h3 | h3 | h3
      · exact absurd h3 h2
      · rcases hw'.mine t e h1 h3 x hx with h4 | ⟨t2, e2, h4, h5, h6⟩
        · exact .inl (Nat.le_trans hw.keep.size h4)
        · exact hw.lie t2 e2 h4 x h6
      · exact hw.lie t e h3 x hx
  obtain ⟨hs, sF, hd, hsF⟩ := hr.states
  cases draw with
  | false =>
    refine Gm.of_wp (wpIn_region ?_)
    rw [List.range_eq_range', show List.range' 0 ops.size = List.range' 0 ops.size ++ [] from (List.append_nil _).symm]
    refine chain_sound (hs := hintAt hs) (n := n) (w0 := w) _ _ (fun _ => ⟨0, none, 0, [], fun _ _ => (none, 0)⟩) ⟨look env, look (mem ++ [(kb, eb)])⟩ sF a w (List.nodup_range' ..) hf' hw2 (fun fr _ => (hsF fr).1) ?_
    intro fr a' w' hf2 hw'
    exact ⟨rfl, h fr a' w' (hf2.less (hsF fr).2.1) (back fr w' (hw'.less (hsF fr).2.2))⟩
  | true =>
    obtain ⟨hm, hB⟩ := hd rfl
    refine Gm.of_wp (wpIn_region_any hm ?_)
    refine any_sound (hs := hintAt hs) (n := n) (w0 := w) ops.size (Array.replicate ops.size false) (fun _ => ⟨0, none, 0, [], fun _ _ => (none, 0)⟩) ⟨look env, look (mem ++ [(kb, eb)])⟩ sF a { w with drawn := w.drawn + 1 } hf' (hw2.drew _) (fun fr _ => ?_) ?_
    · obtain ⟨os, h1, h2⟩ := (hsF fr).1
      exact anyF_lex ops.size 0 _ _ os hB h1 h2
    · intro fr a' w' hf2 hw'
      exact ⟨rfl, h fr a' w' (hf2.less (hsF fr).2.1) (back fr w' (hw'.less (hsF fr).2.2))⟩
end

/-- What a call reads and hands back, as its own: the last but one of what it owns; so comes out what it hands back. -/
theorem CallB.grp {P : Program} {g : FuncId} {args : Array Value} {X : Type} {v : X → Value} {own rb R : List Ent} {A B : X → List Ent} {R' : X → List Ent} (hown : ∀ x, ((A x).all Ent.own && (B x).all Ent.own) = true) (h : CallB P g args v own [Ent.all R] rb (fun x => A x ++ Ent.all (R' x) :: B x)) :
    CallB P g args v (own ++ [Ent.mine R]) [] rb (fun x => A x ++ Ent.mine (R' x) :: B x) := by
  intro w hg
  have hmR : Ent.mine R ∈ own ++ [Ent.mine R] := List.mem_append.2 (.inr (List.mem_singleton.2 rfl))
  have hg' : GoodG own ([Ent.all R] ++ rb) w := by
    refine ⟨fun e he => hg.ok e (List.mem_append.2 (.inl he)), fun e he => ?_, fun i j e e' hne hi hj => ?_, fun e he e' he' b hb hb' => ?_⟩
    · rcases List.mem_append.1 he with he | he
      · rw [List.mem_singleton.1 he]; exact mine_all.1 (hg.ok _ hmR)
      · exact hg.rok e he
    · exact hg.apart i j e e' hne (by rw [List.getElem?_append_left (List.getElem?_eq_some_iff.1 hi).1]; exact hi) (by rw [List.getElem?_append_left (List.getElem?_eq_some_iff.1 hj).1]; exact hj)
    · rcases List.mem_append.1 he' with he' | he'
      · rw [List.mem_singleton.1 he'] at hb'
        obtain ⟨i, hi⟩ := List.getElem?_of_mem he
        have hlt := (List.getElem?_eq_some_iff.1 hi).1
        exact hg.apart i own.length e (Ent.mine R) (by omega) (by rw [List.getElem?_append_left hlt]; exact hi) (by rw [List.getElem?_append_right (Nat.le_refl _), Nat.sub_self]; rfl) b hb hb'
      · exact hg.rapart e (List.mem_append.2 (.inl he)) e' he' b hb hb'
  refine (h w hg').mono fun e w' ⟨x, he, ht⟩ => ⟨x, he, ?_⟩
  have hat : ∀ (i : Nat) (e : Ent), (A x ++ Ent.mine (R' x) :: B x)[i]? = some e → (i ≠ (A x).length ∧ (A x ++ Ent.all (R' x) :: B x)[i]? = some e) ∨ (i = (A x).length ∧ e = Ent.mine (R' x)) := fun i e hi => by
    by_cases h1 : i < (A x).length
    · rw [List.getElem?_append_left h1] at hi ⊢; exact .inl ⟨by omega, hi⟩
    · rw [List.getElem?_append_right (by omega)] at hi ⊢
      by_cases h2 : i = (A x).length
      · subst h2; rw [Nat.sub_self] at hi; right; exact ⟨rfl, (by simpa using hi : Ent.mine (R' x) = e).symm⟩
      · left; refine ⟨h2, ?_⟩
        rw [show i - (A x).length = (i - (A x).length - 1) + 1 by omega, List.getElem?_cons_succ] at hi ⊢; exact hi
  have hall : (A x ++ Ent.all (R' x) :: B x)[(A x).length]? = some (Ent.all (R' x)) := by
    rw [List.getElem?_append_right (Nat.le_refl _), Nat.sub_self]; rfl
  refine ⟨ht.keep.mono (fun b _ ⟨e0, h1, h2⟩ => ⟨e0, List.mem_append.2 (.inl h1), h2⟩), fun e he => ?_, fun e he b hb => ?_, fun i j e e' hne hi hj hoe b hb hb' => ?_⟩
  · obtain ⟨i, hi⟩ := List.getElem?_of_mem he
    rcases hat i e hi with ⟨_, h1⟩ | ⟨_, rfl⟩
    · exact ht.ok e (List.mem_of_getElem? h1)
    · exact mine_all.2 (ht.ok _ (List.mem_of_getElem? hall))
  · have conv : ∀ e0 : Ent, (∀ b, e0.foot b ↔ e.foot b) → (w.heap.size ≤ b ∨ ∃ e1, (e1 ∈ own ∨ (e0.own = false ∧ e1 ∈ [Ent.all R])) ∧ e1.foot b) → w.heap.size ≤ b ∨ ∃ e1, (e1 ∈ own ++ [Ent.mine R] ∨ (e.own = false ∧ e1 ∈ ([] : List Ent))) ∧ e1.foot b := fun e0 _ h1 => by
      rcases h1 with h1 | ⟨e1, h2 | ⟨_, h2⟩, h3⟩
      · exact .inl h1
      · exact .inr ⟨e1, .inl (List.mem_append.2 (.inl h2)), h3⟩
      · rw [List.mem_singleton.1 h2] at h3
        exact .inr ⟨_, .inl hmR, h3⟩
    obtain ⟨i, hi⟩ := List.getElem?_of_mem he
    rcases hat i e hi with ⟨_, h1⟩ | ⟨_, rfl⟩
    · exact conv e (fun _ => Iff.rfl) (ht.foot e (List.mem_of_getElem? h1) b hb)
    · exact conv (Ent.all (R' x)) (fun _ => Iff.rfl) (ht.foot _ (List.mem_of_getElem? hall) b hb)
  · rcases hat i e hi with ⟨n1, h1⟩ | ⟨n1, rfl⟩
    · rcases hat j e' hj with ⟨n2, h2⟩ | ⟨n2, rfl⟩
      · exact ht.apart i j e e' hne h1 h2 hoe b hb hb'
      · exact ht.apart i (A x).length e _ n1 h1 hall hoe b hb hb'
    · rcases hat j e' hj with ⟨n2, h2⟩ | ⟨n2, rfl⟩
      · have hx := hown x
        simp only [Bool.and_eq_true] at hx
        have hoe' : e'.own = true := by
          by_cases h3 : j < (A x).length
          · rw [List.getElem?_append_left h3] at h2
            exact List.all_eq_true.1 hx.1 e' (List.mem_of_getElem? h2)
          · rw [List.getElem?_append_right (by omega), show j - (A x).length = (j - (A x).length - 1) + 1 by omega, List.getElem?_cons_succ] at h2
            exact List.all_eq_true.1 hx.2 e' (List.mem_of_getElem? h2)
        exact ht.apart j (A x).length e' _ n2 h2 hall hoe' b hb' hb
      · exact hne (n1.trans n2.symm)
theorem CallG.toB {P : Program} {g : FuncId} {args : Array Value} {X : Type} {v : X → Value} {own ro : List Ent} {es' : X → List Ent} (h : CallG P g args v own ro es') : CallB P g args v own ro [] es' := fun w hg => h w hg.fst
theorem CallB.toG {P : Program} {g : FuncId} {args : Array Value} {X : Type} {v : X → Value} {own ro : List Ent} {es' : X → List Ent} (h : CallB P g args v own ro [] es') : CallG P g args v own ro es' := fun w hg => h w (by rw [List.append_nil]; exact hg)

/-! ### A region that draws its order, with one operation that all others wait for -/

section
variable {F : Fence} {n : Nat} {P : Program} {ops : Array Oper} {Q Q' : Exit → Act → World → Prop} {md : Region.Mode}
def lastC (md : Region.Mode) (ops : Array Oper) (LA : Array Bool) (L m : Nat) : Nat → Array Bool → Bool
  | 0, listed => listed == LA
  | g + 1, listed => !(Region.ready md ops listed).isEmpty && (Region.ready md ops listed == Region.ready md ops (fillT m L listed)) &&
    (Region.ready md ops listed).all fun i => Nat.blt i L && lastC md ops LA L m g (listed.setIfInBounds i true)
theorem any_splitC {LA : Array Bool} {L m : Nat} (hQ : ∀ e, e ≠ .normal → ∀ a w, Q' e a w → Q e a w) (hX : ∀ a w, Q' .normal a w → wpAnyIn F n P md ops Q m LA a w) :
    ∀ (g : Nat) (listed : Array Bool) (a : Act) (w : World), lastC md ops LA L m g listed = true → wpAnyIn F n P md ops Q' g (fillT m L listed) a w → wpAnyIn F n P md ops Q (g + m) listed a w
  | 0, listed, a, w, hb, h => by
    have : listed = LA := eq_of_beq hb
    rw [Nat.zero_add, this]
    exact hX a w h.2
  | g + 1, listed, a, w, hb, h => by
    simp only [lastC, Bool.and_eq_true, Bool.not_eq_true', beq_iff_eq, List.all_eq_true] at hb
    obtain ⟨⟨h1, h2⟩, h3⟩ := hb
    rw [show g + 1 + m = (g + m) + 1 by omega]
    refine ⟨fun e => (by rw [e] at h1; cases h1), fun i hi => ?_⟩
    obtain ⟨hne, hb'⟩ := h3 i hi
    have hne' : i < L := by simpa using hne
    have := h.2 i (by rw [← h2]; exact hi)
    refine wpOpIn_q hQ (wpOpIn_mono (fun a w q => ?_) this)
    rw [← fill_comm m L listed hne'] at q
    exact any_splitC hQ hX g _ a w hb' q
end

/-- In the middle of a region that draws its order: m operations are still to come. -/
def GA (P : Program) (b : Frame) (n : Nat) (w0 : World) (S : Area) (R : Ending → World → Prop) (ops : Array Oper) (m : Nat) (listed : Array Bool) (k : List Item) (env : List (Nat × Value)) (mem : List (Nat × Ent)) : Prop :=
  ∀ a w, Fits n b.defers (look env) a → Sat w0 S (look mem) w → wpAnyIn (Fw b.roundOf) 0 P .any ops (fun e a' w' => e = .normal ∧ Gm P b R k a' w') m listed a w

section
variable {P : Program} {b : Frame} {n : Nat} {w0 : World} {S : Area} {R : Ending → World → Prop} {k : List Item} {env : List (Nat × Value)} {mem : List (Nat × Ent)} {ops : Array Oper} {m : Nat} {listed : Array Bool}
theorem GA.conv {env' : List (Nat × Value)} {mem' : List (Nat × Ent)} (he : env = env') (hm : mem = mem') (h : GA P b n w0 S R ops m listed k env' mem') : GA P b n w0 S R ops m listed k env mem := by
  subst he; subst hm; exact h
theorem GA.setMem {mem' : List (Nat × Ent)} (hm : ∀ w, Sat w0 S (look mem) w → Sat w0 S (look mem') w) (h : GA P b n w0 S R ops m listed k env mem') : GA P b n w0 S R ops m listed k env mem :=
  fun a w hf hw => h a w hf (hm w hw)
theorem GA.know {p : Prop} (hm : ∀ w, Sat w0 S (look mem) w → p) (h : p → GA P b n w0 S R ops m listed k env mem) : GA P b n w0 S R ops m listed k env mem :=
  fun a w hf hw => h (hm w hw) a w hf hw

theorem GA.callG {X : Type} {i : Nat} {g : FuncId} {args : Array Value} {v : X → Value} {mem' : X → List (Nat × Ent)} {env' : X → List (Nat × Value)} {own ro : List Ent} {es' : X → List Ent} (ks nk live keys : List Nat) (al : Bool)
    (hrd : (Region.ready .any ops listed == [i]) = true) (hi : Nat.blt i ops.size = true)
    (hloc : (dstIn n (ops.getD i default).dst && notSelect (ops.getD i default).op && ((ops.getD i default).op.operands.toList.all (knows (look env))) && (match wantedS ops (look env) (ops.getD i default) with | some b => b | none => false)) = true)
    (hex : runPure P (execOp (val (look env)) (ops.getD i default)) = some (.enter g args))
    (hnd : (nodupB ks && nodupB nk && own.all Ent.own) = true) (hm : ks.map (look mem) = own.map some) (hlen : ∀ x, nk.length = (es' x).length)
    (hal : al = false → ∀ x, (es' x).all Ent.own = true)
    (hr : RoAll (look mem) ks al ro)
    (hmem : ∀ x, memOut keys (setAll (dropKs (look mem) ks) nk (es' x)) = some (mem' x))
    (henv : ∀ x, envOut live (put (look env) (ops.getD i default).dst (v x)) = some (env' x))
    (hc : CallG P g args v own ro es')
    (h : ∀ x, GA P b n w0 S R ops m (listed.setIfInBounds i true) k (env' x) (mem' x)) : GA P b n w0 S R ops (m + 1) listed k env mem := by
  simp only [Bool.and_eq_true] at hloc hnd
  obtain ⟨⟨⟨h1, h2⟩, h3⟩, h4⟩ := hloc
  obtain ⟨⟨n1, n2⟩, n3⟩ := hnd
  have hlt : i < ops.size := by simpa [Nat.blt_eq] using hi
  have ho : ops[i]? = some (ops.getD i default) := by
    rw [Array.getD, dif_pos hlt, Array.getElem?_eq_getElem hlt]; rfl
  have hwt : wantedS ops (look env) (ops.getD i default) = some true := by
    cases hw : wantedS ops (look env) (ops.getD i default) with
    | none => rw [hw] at h4; simp at h4
    | some b => rw [hw] at h4; simp at h4; rw [h4]
  have hready : Region.ready .any ops listed = [i] := eq_of_beq hrd
  intro a w hf hw
  refine ⟨fun e => (by rw [hready] at e; cases e), fun j hj => ?_⟩
  rw [hready] at hj
  obtain rfl := List.mem_singleton.1 hj
  have hσ : execOp a.eval (ops.getD j default) = execOp (val (look env)) (ops.getD j default) := execOp_congr _ (fun cs b hc => by rw [hc] at h2; simp [notSelect] at h2) fun x hx => hf.eval (List.all_eq_true.1 h3 x (by simpa using hx))
  unfold wpOpIn
  simp only [ho, wantedS_sound hf hwt, if_true]
  refine wp_in (fun c hc => by rw [hc] at h2; cases h2) ?_
  unfold Oper.wp
  rw [hσ, runPure_sound _ hex w, Oper.upon_enter]
  have hg : GoodG own ro w := hw.goodG (nodupB_spec n1) hm n3 hr
  refine (hc w hg).mono fun e w' ⟨x, he, ht⟩ => ?_
  have hs := (hw.turnsG (nodupB_spec n2) hm n3 (hlen x) hr (fun ha => hal ha x) ht).less (memOut_look keys (hmem x))
  subst he
  refine h x _ w' ?_ hs
  exact (hf.put (fun t ht => by rw [ht] at h1; simpa [dstIn] using h1) (v x)).less (envOut_look live (henv x))

theorem GA.rest {i : Nat} {env' : (Nat → Fr) → List (Nat × Value)} {mem' : (Nat → Fr) → List (Nat × Ent)} (hs : List (Nat × Hint)) (live ks : List Nat) (os : (Nat → Fr) → List Prop)
    (hB : lexH .any ops (hintAt hs) m i listed = true) (hrun : ∀ fr, symRun P n ops hs i m live ks env mem fr = some (env' fr, mem' fr, os fr)) (ho : ∀ fr, All (os fr))
    (h : ∀ fr, GS P b n w0 S R k (env' fr) (mem' fr)) : GA P b n w0 S R ops m listed k env mem := by
  intro a w hf hw
  have hex : ∀ fr, ∃ s : SState, (∃ os, chainF P n ops (hintAt hs) fr (List.range' i m) ⟨look env, look mem⟩ = some (s, os) ∧ All os) ∧
      (∀ t v, look (env' fr) t = some v → s.ρ t = some v) ∧ (∀ t v, look (mem' fr) t = some v → s.m t = some v) := fun fr => by
    obtain ⟨s, hc, h2, h3⟩ := symRun_chain (hrun fr)
    exact ⟨s, ⟨os fr, hc, ho fr⟩, h2, h3⟩
  obtain ⟨sF, hsF⟩ : ∃ sF : (Nat → Fr) → SState, ∀ fr, (∃ os, chainF P n ops (hintAt hs) fr (List.range' i m) ⟨look env, look mem⟩ = some (sF fr, os) ∧ All os) ∧
      (∀ t v, look (env' fr) t = some v → (sF fr).ρ t = some v) ∧ (∀ t v, look (mem' fr) t = some v → (sF fr).m t = some v) := ⟨fun fr => Classical.choose (hex fr), fun fr => Classical.choose_spec (hex fr)⟩
  refine any_sound (hs := hintAt hs) (n := n) (w0 := w0) (S := S) m _ (fun _ => ⟨0, none, 0, [], fun _ _ => (none, 0)⟩) ⟨look env, look mem⟩ sF a _ hf hw (fun fr _ => ?_) ?_
  · obtain ⟨os, h1, h2⟩ := (hsF fr).1
    exact anyF_lex m i _ _ os hB h1 h2
  · intro fr a' w' hf' hw'
    exact ⟨rfl, h fr a' w' (hf'.less (hsF fr).2.1) (hw'.less (hsF fr).2.2)⟩

theorem GS.regionMid {id : Nat} (L m : Nat) {env' : (Nat → Fr) → List (Nat × Value)} {mem' : (Nat → Fr) → List (Nat × Ent)} (hs : List (Nat × Hint)) (live ks : List Nat) (os : (Nat → Fr) → List Prop) (hm : P.follows .mixedOrders = true) (hsz : Nat.beq ops.size (L + m) = true)
    (hB : lexH .any ops (hintAt hs) L 0 (fillT m L (Array.replicate ops.size false)) = true) (hl : lastC .any ops (fillT L 0 (Array.replicate ops.size false)) L m L (Array.replicate ops.size false) = true)
    (hrun : ∀ fr, symRun P n ops hs 0 L live ks env mem fr = some (env' fr, mem' fr, os fr)) (ho : ∀ fr, All (os fr))
    (h : ∀ fr, GA P b n w0 S R ops m (fillT L 0 (Array.replicate ops.size false)) k (env' fr) (mem' fr)) : GS P b n w0 S R (.code (.region id ops true) :: k) env mem := by
  intro a w hf hw
  have hsz := Nat.eq_of_beq_eq_true hsz
  have hex : ∀ fr, ∃ s : SState, (∃ os, chainF P n ops (hintAt hs) fr (List.range' 0 L) ⟨look env, look mem⟩ = some (s, os) ∧ All os) ∧
      (∀ t v, look (env' fr) t = some v → s.ρ t = some v) ∧ (∀ t v, look (mem' fr) t = some v → s.m t = some v) := fun fr => by
    obtain ⟨s, hc, h2, h3⟩ := symRun_chain (hrun fr)
    exact ⟨s, ⟨os fr, hc, ho fr⟩, h2, h3⟩
  obtain ⟨sF, hsF⟩ : ∃ sF : (Nat → Fr) → SState, ∀ fr, (∃ os, chainF P n ops (hintAt hs) fr (List.range' 0 L) ⟨look env, look mem⟩ = some (sF fr, os) ∧ All os) ∧
      (∀ t v, look (env' fr) t = some v → (sF fr).ρ t = some v) ∧ (∀ t v, look (mem' fr) t = some v → (sF fr).m t = some v) := ⟨fun fr => Classical.choose (hex fr), fun fr => Classical.choose_spec (hex fr)⟩
  refine Gm.of_wp (wpIn_region_any hm ?_)
  have key : wpAnyIn (Fw b.roundOf) 0 P .any ops (fun e a' w' => e = .normal ∧ wpAnyIn (Fw b.roundOf) 0 P .any ops (fun e a' w' => e = .normal ∧ Gm P b R k a' w') m (fillT L 0 (Array.replicate ops.size false)) a' w') L (fillT m L (Array.replicate ops.size false)) a { w with drawn := w.drawn + 1 } := by
    refine any_sound (hs := hintAt hs) (n := n) (w0 := w0) (S := S) L _ (fun _ => ⟨0, none, 0, [], fun _ _ => (none, 0)⟩) ⟨look env, look mem⟩ sF a _ hf (hw.drew _) (fun fr _ => ?_) ?_
    · obtain ⟨os, h1, h2⟩ := (hsF fr).1
      exact anyF_lex L 0 _ _ os hB h1 h2
    · intro fr a' w' hf' hw'
      exact ⟨rfl, h fr a' w' (hf'.less (hsF fr).2.1) (hw'.less (hsF fr).2.2)⟩
  have := any_splitC (Q := fun e a' w' => e = .normal ∧ Gm P b R k a' w') (LA := fillT L 0 (Array.replicate ops.size false)) (L := L) (m := m) (fun e he a w q => absurd q.1 he) (fun a w q => q.2) L _ a _ hl key
  rw [← hsz] at this
  exact this
end

/-! ### Shorter texts -/

@[reducible] def pA (b o : Nat) : Value := .pointer (some ⟨b, o, none⟩)
@[reducible] def vI (z : Int) : Value := .int .i64 z
@[reducible] def oW (z : Int) : Prop := (.int .i64 (IntKind.i64.wrap z) : Value) = .int .i64 z
@[reducible] def oC (v : Value) : Prop := v.cells.toList.all Value.oneCell' = true
section
variable {P : Program} {b : Frame} {n : Nat} {w0 : World} {S : Area} {R : Ending → World → Prop} {k : List Item} {env : List (Nat × Value)} {mem : List (Nat × Ent)} {ops : Array Oper}
theorem GS.rg {id : Nat} (env' : (Nat → Fr) → List (Nat × Value)) (mem' : (Nat → Fr) → List (Nat × Ent)) (hs : List (Nat × Hint)) (live ks : List Nat) (os : (Nat → Fr) → List Prop)
    (h1 : ∀ fr, symRun P n ops hs 0 ops.size live ks env mem fr = some (env' fr, mem' fr, os fr)) (ho : ∀ fr, All (os fr)) (h : ∀ fr, GS P b n w0 S R k (env' fr) (mem' fr)) : GS P b n w0 S R (.code (.region id ops false) :: k) env mem :=
  GS.region (RunsTo.mk hs live ks os h1 ho) h
/-- A region that leaves what is known of memory. -/
theorem GS.rgM {id : Nat} (env' : (Nat → Fr) → List (Nat × Value)) (hs : List (Nat × Hint)) (live ks : List Nat) (os : (Nat → Fr) → List Prop)
    (h1 : ∀ fr, symRun P n ops hs 0 ops.size live ks env mem fr = some (env' fr, mem, os fr)) (ho : ∀ fr, All (os fr)) (h : ∀ fr, GS P b n w0 S R k (env' fr) mem) : GS P b n w0 S R (.code (.region id ops false) :: k) env mem :=
  GS.region (mem' := fun _ => mem) (RunsTo.mk hs live ks os h1 ho) h
/-- Regions that ask nothing. -/
theorem GS.rz {id : Nat} (env' : (Nat → Fr) → List (Nat × Value)) (mem' : (Nat → Fr) → List (Nat × Ent)) (hs : List (Nat × Hint)) (live ks : List Nat)
    (h1 : ∀ fr, symRun P n ops hs 0 ops.size live ks env mem fr = some (env' fr, mem' fr, [])) (h : ∀ fr, GS P b n w0 S R k (env' fr) (mem' fr)) : GS P b n w0 S R (.code (.region id ops false) :: k) env mem :=
  GS.region (RunsTo.mk hs live ks (fun _ => []) h1 (fun _ => trivial)) h
theorem GS.rzM {id : Nat} (env' : (Nat → Fr) → List (Nat × Value)) (hs : List (Nat × Hint)) (live ks : List Nat)
    (h1 : ∀ fr, symRun P n ops hs 0 ops.size live ks env mem fr = some (env' fr, mem, [])) (h : ∀ fr, GS P b n w0 S R k (env' fr) mem) : GS P b n w0 S R (.code (.region id ops false) :: k) env mem :=
  GS.region (mem' := fun _ => mem) (RunsTo.mk hs live ks (fun _ => []) h1 (fun _ => trivial)) h
theorem GS.rM {id : Nat} {draw : Bool} {env' : (Nat → Fr) → List (Nat × Value)} (hr : RunsTo P n ops draw 0 ops.size env mem env' (fun _ => mem))
    (h : ∀ fr, GS P b n w0 S R k (env' fr) mem) : GS P b n w0 S R (.code (.region id ops draw) :: k) env mem := GS.region hr h
theorem GR.rM {i : Nat} (g : Nat) {env' : (Nat → Fr) → List (Nat × Value)} (hg : Nat.ble (i + g) ops.size = true) (hr : RunsTo P n ops false i g env mem env' (fun _ => mem))
    (h : ∀ fr, GR P b n w0 S R ops (i + g) k (env' fr) mem) : GR P b n w0 S R ops i k env mem := GR.run g (Nat.le_of_ble_eq_true hg) hr h
theorem GR.ru {i : Nat} (g : Nat) {env' : (Nat → Fr) → List (Nat × Value)} {mem' : (Nat → Fr) → List (Nat × Ent)} (hg : Nat.ble (i + g) ops.size = true) (hr : RunsTo P n ops false i g env mem env' mem')
    (h : ∀ fr, GR P b n w0 S R ops (i + g) k (env' fr) (mem' fr)) : GR P b n w0 S R ops i k env mem := GR.run g (Nat.le_of_ble_eq_true hg) hr h
theorem GR.dn {i : Nat} (hi : Nat.ble ops.size i = true) (h : GS P b n w0 S R k env mem) : GR P b n w0 S R ops i k env mem := GR.done (Nat.le_of_ble_eq_true hi) h
end
end Sx
