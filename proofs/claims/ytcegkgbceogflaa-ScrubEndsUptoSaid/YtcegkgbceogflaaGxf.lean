/-
  Models, part 6: ranges over functions by contracts of iterators.
-/
import Derived.Test.YtcegkgbceogflaaGxe
set_option linter.unusedVariables false
set_option linter.unusedSimpArgs false
namespace Sx
open Go Go.RowKit

/-! ### Into a bag, and out of it -/

theorem Sat.unbag {w0 w : World} {S : Area} {m : Mem} {k : Nat} {es : List Ent} (h : Sat w0 S m w) (hk : m k = some (bag es)) (hown : es.all Ent.own = true) {nk : List Nat} (hnd : nk.Nodup) (hlen : nk.length = es.length) :
    Sat w0 S (setAll (upd m k none) nk es) w := by
  have hb := bag_ok.1 (h.ok k _ hk)
  have hat : ∀ t E, setAll (upd m k none) nk es t = some E → (∃ i, nk[i]? = some t ∧ es[i]? = some E) ∨ (t ≠ k ∧ m t = some E) := fun t E hE => by
    rcases setAll_at _ _ _ t E hlen hnd hE with ⟨i, h1, h2⟩ | ⟨h1, h2⟩
    · exact .inl ⟨i, h1, h2⟩
    · refine .inr ?_
      by_cases hkt : k = t
      · subst hkt; rw [upd_same] at h2; cases h2
      · rw [upd_other _ _ hkt] at h2; exact ⟨fun e => hkt e.symm, h2⟩
  have hin : ∀ {i : Nat} {E : Ent}, es[i]? = some E → ∀ b, E.foot b → (bag es).foot b := fun hi b hb => ⟨_, List.mem_of_getElem? hi, hb⟩
  refine ⟨h.keep, fun t E hE => ?_, fun t E hE ho b hbE => ?_, fun t t' E E' hne hE hE' ho b hbE hbE' => ?_, fun t E hE b hbE => ?_⟩
  · rcases hat t E hE with ⟨i, _, h2⟩ | ⟨_, h2⟩
    · exact hb.1 E (List.mem_of_getElem? h2)
    · exact h.ok t E h2
  · rcases hat t E hE with ⟨i, _, h2⟩ | ⟨_, h2⟩
    · exact h.mine k _ hk rfl b (hin h2 b hbE)
    · exact h.mine t E h2 ho b hbE
  · rcases hat t E hE with ⟨i, h1, h2⟩ | ⟨h1, h2⟩
    · rcases hat t' E' hE' with ⟨j, g1, g2⟩ | ⟨g1, g2⟩
      · exact hb.2 i j E E' (fun e => by subst e; rw [h1] at g1; exact hne (Option.some.inj g1)) h2 g2 b hbE hbE'
      · exact h.apart k t' _ E' (Ne.symm g1) hk g2 rfl b (hin h2 b hbE) hbE'
    · rcases hat t' E' hE' with ⟨j, g1, g2⟩ | ⟨g1, g2⟩
      · exact h.apart k t _ E (Ne.symm h1) hk h2 rfl b (hin g2 b hbE') hbE
      · exact h.apart t t' E E' hne h2 g2 ho b hbE hbE'
  · rcases hat t E hE with ⟨i, _, h2⟩ | ⟨_, h2⟩
    · exact h.lie k _ hk b (hin h2 b hbE)
    · exact h.lie t E h2 b hbE

theorem Sat.bag {w0 w : World} {S : Area} {m : Mem} {es : List Ent} {ks : List Nat} {K : Nat} (h : Sat w0 S m w) (hnd : ks.Nodup) (hm : ks.map m = es.map some) (hown : es.all Ent.own = true) :
    Sat w0 S (upd (dropKs m ks) K (some (bag es))) w := by
  have hat : ∀ (i : Nat) (e : Ent), es[i]? = some e → ∃ k, ks[i]? = some k ∧ m k = some e := fun i e hi => by
    have h1 : (ks.map m)[i]? = some (some e) := by rw [hm]; simp [hi]
    rw [List.getElem?_map] at h1
    cases hk : ks[i]? with
    | none => simp [hk] at h1
    | some k => simp [hk] at h1; exact ⟨k, rfl, h1⟩
  have hmem : ∀ e ∈ es, ∃ k, k ∈ ks ∧ m k = some e ∧ e.own = true := fun e he => by
    obtain ⟨i, hi⟩ := List.getElem?_of_mem he
    obtain ⟨k, h1, h2⟩ := hat i e hi
    exact ⟨k, List.mem_of_getElem? h1, h2, List.all_eq_true.1 hown e he⟩
  have hold : ∀ t E, upd (dropKs m ks) K (some (Sx.bag es)) t = some E → (t = K ∧ E = Sx.bag es) ∨ (t ≠ K ∧ t ∉ ks ∧ m t = some E) := fun t E hE => by
    by_cases hkt : K = t
    · subst hkt; rw [upd_same] at hE; cases hE; exact .inl ⟨rfl, rfl⟩
    · rw [upd_other _ _ hkt] at hE
      refine .inr ⟨fun e => hkt e.symm, ?_⟩
      unfold dropKs at hE
      split at hE
      · cases hE
      · rename_i hc
        exact ⟨fun hq => (by rw [List.contains_iff_mem.2 hq] at hc; cases hc), hE⟩
  refine ⟨h.keep, fun t E hE => ?_, fun t E hE ho b hb => ?_, fun t t' E E' hne hE hE' ho b hb hb' => ?_, fun t E hE b hb => ?_⟩
  · rcases hold t E hE with ⟨_, rfl⟩ | ⟨_, _, h2⟩
    · refine bag_ok.2 ⟨fun e he => ?_, fun i j e e' hij hi hj b hb hb' => ?_⟩
      · obtain ⟨k, _, h2, _⟩ := hmem e he
        exact h.ok k e h2
      · obtain ⟨k, h1, h2⟩ := hat i e hi
        obtain ⟨k', h1', h2'⟩ := hat j e' hj
        have hkk : k ≠ k' := fun heq => by
          subst heq
          have hil : i < ks.length := (List.getElem?_eq_some_iff.1 h1).1
          exact hij ((List.getElem?_inj hil hnd).1 (h1.trans h1'.symm))
        exact h.apart k k' e e' hkk h2 h2' (List.all_eq_true.1 hown e (List.mem_of_getElem? hi)) b hb hb'
    · exact h.ok t E h2
  · rcases hold t E hE with ⟨_, rfl⟩ | ⟨_, _, h2⟩
    · obtain ⟨e, he, hbe⟩ := hb
      obtain ⟨k, _, h3, h4⟩ := hmem e he
      exact h.mine k e h3 h4 b hbe
    · exact h.mine t E h2 ho b hb
  · rcases hold t E hE with ⟨q1, rfl⟩ | ⟨h1, h2, h3⟩
    · rcases hold t' E' hE' with ⟨q2, rfl⟩ | ⟨g1, g2, g3⟩
      · exact hne (q1.trans q2.symm)
      · obtain ⟨e, he, hbe⟩ := hb
        obtain ⟨k, hk, h4, h5⟩ := hmem e he
        exact h.apart k t' e E' (fun q => g2 (q ▸ hk)) h4 g3 h5 b hbe hb'
    · rcases hold t' E' hE' with ⟨q2, rfl⟩ | ⟨g1, g2, g3⟩
      · obtain ⟨e, he, hbe⟩ := hb'
        obtain ⟨k, hk, h4, h5⟩ := hmem e he
        exact h.apart k t e E (fun q => h2 (q ▸ hk)) h4 h3 h5 b hbe hb
      · exact h.apart t t' E E' hne h3 g3 ho b hb hb'
  · rcases hold t E hE with ⟨_, rfl⟩ | ⟨_, _, h2⟩
    · obtain ⟨e, he, hbe⟩ := hb
      obtain ⟨k, _, h3, _⟩ := hmem e he
      exact h.lie k e h3 b hbe
    · exact h.lie t E h2 b hb

theorem TurnsG.bag {own ro es' : List Ent} {w w' : World} (h : TurnsG own ro es' w w') (hown : es'.all Ent.own = true) : TurnsG own ro [Sx.bag es'] w w' := by
  refine ⟨h.keep, fun e he => ?_, fun e he b hb => ?_, fun i j e e' hne hi hj => ?_⟩
  · rw [List.mem_singleton.1 he]
    exact bag_ok.2 ⟨h.ok, fun i j e e' hij hi hj => h.apart i j e e' hij hi hj (List.all_eq_true.1 hown e (List.mem_of_getElem? hi))⟩
  · rw [List.mem_singleton.1 he] at hb
    obtain ⟨e1, h1, h2⟩ := hb
    rcases h.foot e1 h1 b h2 with h3 | ⟨e0, h3 | ⟨h3, _⟩, h4⟩
    · exact .inl h3
    · exact .inr ⟨e0, .inl h3, h4⟩
    · rw [List.all_eq_true.1 hown e1 h1] at h3; cases h3
  · have h1 := (List.getElem?_eq_some_iff.1 hi).1
    have h2 := (List.getElem?_eq_some_iff.1 hj).1
    simp at h1 h2
    omega

/-! ### A round -/

/-! ### The statement, by the iterator's contract -/

theorem unbag_mem {w0 w : World} {S : Area} {mem mem' : List (Nat × Ent)} {k : Nat} {es : List Ent} {nk keys : List Nat} (hw : Sat w0 S (look mem) w) (hk : look mem k = some (bag es)) (hown : es.all Ent.own = true) (hnd : nodupB nk = true) (hlen : nk.length = es.length)
    (hmem : memOut keys (setAll (upd (look mem) k none) nk es) = some mem') : Sat w0 S (look mem') w :=
  (hw.unbag hk hown (nodupB_spec hnd) hlen).less (memOut_look keys hmem)

section
variable {P : Program} {b : Frame} {n : Nat} {w0 : World} {S : Area} {R : Ending → World → Prop} {k : List Item} {env : List (Nat × Value)} {mem : List (Nat × Ent)}

end

/-! ### Several read entries as one; what comes behind the statement -/

theorem addAll_aux {es : List Ent} {ks : List Nat} {m : Mem} (hm : ks.map m = es.map some) {e : Ent} (he : e ∈ es) : ∃ k, m k = some e := by
  obtain ⟨i, hi⟩ := List.getElem?_of_mem he
  have h1 : (ks.map m)[i]? = some (some e) := by rw [hm]; simp [hi]
  rw [List.getElem?_map] at h1
  cases hk : ks[i]? with
  | none => simp [hk] at h1
  | some k => simp [hk] at h1; exact ⟨k, h1⟩

theorem Sat.addAll {w0 w : World} {S : Area} {mem mem' : List (Nat × Ent)} {es : List Ent} {k : Nat} (h : Sat w0 S (look mem) w) (ks : List Nat) (hks : ks.map (look mem) = es.map some) (hro : es.all (fun e => !e.own) = true)
    (hm : mem' = mem ++ [(k, Ent.all es)]) : Sat w0 S (look mem') w := by
  subst hm
  have hno : ∀ e ∈ es, e.own = false := fun e he => by
    have := List.all_eq_true.1 hro e he
    simpa using this
  have happ : ∀ (t : Nat) (e : Ent), look (mem ++ [(k, Ent.all es)]) t = some e → look mem t = some e ∨ e = Ent.all es := by
    intro t e he
    rw [look_snoc] at he
    split at he
    · rename_i x hx; rw [hx]; exact .inl he
    · split at he
      · exact .inr (Option.some.inj he).symm
      · cases he
  refine ⟨h.keep, fun t x he => ?_, fun t x he ho b hb => ?_, fun t t' x x' hn he he' ho b hb hb' => ?_, fun t x he b hb => ?_⟩
  · rcases happ t x he with h1 | rfl
    · exact h.ok t x h1
    · exact Ent.all_ok fun e he => (addAll_aux hks he).elim fun q hq => h.ok q e hq
  · rcases happ t x he with h1 | rfl
    · exact h.mine t x h1 ho b hb
    · cases ho
  · rcases happ t x he with h1 | rfl
    · rcases happ t' x' he' with h2 | rfl
      · exact h.apart t t' x x' hn h1 h2 ho b hb hb'
      · obtain ⟨e, he2, hbe⟩ := hb'
        obtain ⟨q, hq⟩ := addAll_aux hks he2
        have hqt : t ≠ q := fun eq => by
          rw [eq, hq] at h1
          have h3 := Option.some.inj h1
          rw [← h3, hno e he2] at ho
          cases ho
        exact h.apart t q x e hqt h1 hq ho b hb hbe
    · cases ho
  · rcases happ t x he with h1 | rfl
    · exact h.lie t x h1 b hb
    · obtain ⟨e, he2, hbe⟩ := hb
      obtain ⟨q, hq⟩ := addAll_aux hks he2
      exact h.lie q e hq b hbe

section
variable {P : Program} {b : Frame} {n : Nat} {w0 : World} {S : Area} {R : Ending → World → Prop} {k : List Item} {env : List (Nat × Value)} {mem : List (Nat × Ent)}
end

end Sx
