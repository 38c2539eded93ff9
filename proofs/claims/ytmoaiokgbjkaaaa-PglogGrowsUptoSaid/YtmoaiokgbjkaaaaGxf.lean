/-
  Models, part 6: ranges over functions by contracts of iterators.
-/
import Derived.Test.YtmoaiokgbjkaaaaGxe
set_option linter.unusedVariables false
set_option linter.unusedSimpArgs false
namespace Sx
open Go Go.RowKit

/-! ### Into a bag, and out of it -/

theorem Sat.bag {w0 w : World} {S : Area} {m : Mem} {es : List Ent} {ks : List Nat} {K : Nat} (h : Sat w0 S m w) (hnd : ks.Nodup) (hm : ks.map m = es.map some) (hown : es.all Ent.own = true) :
    Sat w0 S (upd (dropKs m ks) K (some (bag es))) w := by
  have hat : ∀ (i : Nat) (e : Ent), es[i]? = some e → ∃ k, ks[i]? = some k ∧ m k = some e := fun i e hi => by
    have h1 : (ks.map m)[i]? = some (some e) := by rw [hm]; simp [hi]
    rw [List.getElem?_map] at h1
    cases hk : ks[i]? with
    | none => simp [hk] at h1
    | some k => simp [hk] at h1; exact ⟨k, rfl, h1⟩
  have hmem : ∀ e ∈ es, ∃ k, k ∈ ks ∧ m k = some e ∧ e.own = true := fun e he => by
    obtain ⟨i, hi⟩ := List.getElem?_of_mem he
    obtain ⟨k, h1, h2⟩ := hat i e hi
    exact ⟨k, List.mem_of_getElem? h1, h2, List.all_eq_true.1 hown e he⟩
  have hold : ∀ t E, upd (dropKs m ks) K (some (Sx.bag es)) t = some E → (t = K ∧ E = Sx.bag es) ∨ (t ≠ K ∧ t ∉ ks ∧ m t = some E) := fun t E hE => by
    by_cases hkt : K = t
    · subst hkt; rw [upd_same] at hE; cases hE; exact .inl ⟨rfl, rfl⟩
    · rw [upd_other _ _ hkt] at hE
      refine .inr ⟨fun e => hkt e.symm, ?_⟩
      unfold dropKs at hE
      split at hE
      · cases hE
      · rename_i hc
        exact ⟨fun hq => (by rw [List.contains_iff_mem.2 hq] at hc; cases hc), hE⟩
  refine ⟨h.keep, fun t E hE => ?_, fun t E hE ho b hb => ?_, fun t t' E E' hne hE hE' ho b hb hb' => ?_, fun t E hE b hb => ?_⟩
  · rcases hold t E hE with ⟨_, rfl⟩ | ⟨_, _, h2⟩
    · refine bag_ok.2 ⟨fun e he => ?_, fun i j e e' hij hi hj b hb hb' => ?_⟩
      · obtain ⟨k, _, h2, _⟩ := hmem e he
        exact h.ok k e h2
      · obtain ⟨k, h1, h2⟩ := hat i e hi
        obtain ⟨k', h1', h2'⟩ := hat j e' hj
        have hkk : k ≠ k' := fun heq => by
          subst heq
          have hil : i < ks.length := (List.getElem?_eq_some_iff.1 h1).1
          exact hij ((List.getElem?_inj hil hnd).1 (h1.trans h1'.symm))
        exact h.apart k k' e e' hkk h2 h2' (List.all_eq_true.1 hown e (List.mem_of_getElem? hi)) b hb hb'
    · exact h.ok t E h2
  · rcases hold t E hE with ⟨_, rfl⟩ | ⟨_, _, h2⟩
    · obtain ⟨e, he, hbe⟩ := hb
      obtain ⟨k, _, h3, h4⟩ := hmem e he
      exact h.mine k e h3 h4 b hbe
    · exact h.mine t E h2 ho b hb
  · rcases hold t E hE with ⟨q1, rfl⟩ | ⟨h1, h2, h3⟩
    · rcases hold t' E' hE' with ⟨q2, rfl⟩ | ⟨g1, g2, g3⟩
      · exact hne (q1.trans q2.symm)
      · obtain ⟨e, he, hbe⟩ := hb
        obtain ⟨k, hk, h4, h5⟩ := hmem e he
        exact h.apart k t' e E' (fun q => g2 (q ▸ hk)) h4 g3 h5 b hbe hb'
    · rcases hold t' E' hE' with ⟨q2, rfl⟩ | ⟨g1, g2, g3⟩
      · obtain ⟨e, he, hbe⟩ := hb'
        obtain ⟨k, hk, h4, h5⟩ := hmem e he
        exact h.apart k t e E (fun q => h2 (q ▸ hk)) h4 h3 h5 b hbe hb
      · exact h.apart t t' E E' hne h3 g3 ho b hb hb'
  · rcases hold t E hE with ⟨_, rfl⟩ | ⟨_, _, h2⟩
    · obtain ⟨e, he, hbe⟩ := hb
      obtain ⟨k, _, h3, _⟩ := hmem e he
      exact h.lie k e h3 b hbe
    · exact h.lie t E h2 b hb

theorem TurnsG.bag {own ro es' : List Ent} {w w' : World} (h : TurnsG own ro es' w w') (hown : es'.all Ent.own = true) : TurnsG own ro [Sx.bag es'] w w' := by
  refine ⟨h.keep, fun e he => ?_, fun e he b hb => ?_, fun i j e e' hne hi hj => ?_⟩
  · rw [List.mem_singleton.1 he]
    exact bag_ok.2 ⟨h.ok, fun i j e e' hij hi hj => h.apart i j e e' hij hi hj (List.all_eq_true.1 hown e (List.mem_of_getElem? hi))⟩
  · rw [List.mem_singleton.1 he] at hb
    obtain ⟨e1, h1, h2⟩ := hb
    rcases h.foot e1 h1 b h2 with h3 | ⟨e0, h3 | ⟨h3, _⟩, h4⟩
    · exact .inl h3
    · exact .inr ⟨e0, .inl h3, h4⟩
    · rw [List.all_eq_true.1 hown e1 h1] at h3; cases h3
  · have h1 := (List.getElem?_eq_some_iff.1 hi).1
    have h2 := (List.getElem?_eq_some_iff.1 hj).1
    simp at h1 h2
    omega

/-! ### A round -/

/-! ### The statement, by the iterator's contract -/

section
variable {P : Program} {b : Frame} {n : Nat} {w0 : World} {S : Area} {R : Ending → World → Prop} {k : List Item} {env : List (Nat × Value)} {mem : List (Nat × Ent)}

end

/-! ### Several read entries as one; what comes behind the statement -/

section
variable {P : Program} {b : Frame} {n : Nat} {w0 : World} {S : Area} {R : Ending → World → Prop} {k : List Item} {env : List (Nat × Value)} {mem : List (Nat × Ent)}
end

end Sx
