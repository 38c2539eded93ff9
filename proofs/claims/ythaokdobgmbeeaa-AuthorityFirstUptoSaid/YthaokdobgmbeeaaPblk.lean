/-
  CHAPTER 16: the rounds of slices.SortStableFunc, in plain Lean.
-/
import Derived.Test.YthaokdobgmbeeaaPstab
set_option linter.unusedVariables false
namespace Go.Proofs.Ythaokdobgmbeeaa
open Go Sx

section
variable {c : Int → Int → Int} {S : Int → Prop} {lt : Int → Int → Bool}

theorem insS_allS (hlt : ∀ u v, lt u v = decide (c u v < 0)) (H : Order lt S) {L : List Int} {a k : Nat} (hS : AllS 0 S L) (hk : a + 1 + k ≤ L.length) : AllS 0 S (insS c a k L) := by
  obtain ⟨g1, g2, g3⟩ := insS_seg (a := a) lt hlt H hS k hk
  intro t ht
  by_cases hin : t < a ∨ a + 1 + k ≤ t
  · rw [g2 t hin]; exact hS t (by rw [← g1]; exact ht)
  · have hmem2 : (insS c a k L).getD t 0 ∈ seg 0 (insS c a k L) a (k + 1) := (mem_seg 0).2 ⟨t - a, by omega, by congr 1; omega⟩
    rw [g3] at hmem2
    obtain ⟨i, hi, he⟩ := (mem_seg 0).1 ((mem_isort lt _ _).1 hmem2)
    rw [he]
    exact hS _ (by omega)

/-- What holds ahead of each round of the first loop. -/
structure First (lt : Int → Int → Bool) (S : Int → Prop) (l : List Int) (q : Nat) (L : List Int) : Prop where
  le : 20 * q ≤ l.length
  len : L.length = l.length
  all : AllS 0 S L
  blk : ∀ k, k < q → Blk lt l 20 L (k * 20)
  rest : ∀ t, 20 * q ≤ t → L.getD t 0 = l.getD t 0

theorem First.start {l : List Int} (hS : AllS 0 S l) : First lt S l 0 l := ⟨by omega, rfl, hS, fun k hk => by omega, fun _ _ => rfl⟩

theorem First.step (hlt : ∀ u v, lt u v = decide (c u v < 0)) (H : Order lt S) {l L : List Int} {q : Nat} (h : First lt S l q L) (hq : 20 * q + 20 ≤ l.length) : First lt S l (q + 1) (insS c (20 * q) (20 * q + 20 - (20 * q + 1)) L) := by
  have hl := h.len
  rw [show 20 * q + 20 - (20 * q + 1) = 19 by omega]
  obtain ⟨g1, g2, g3⟩ := insS_seg (a := 20 * q) lt hlt H h.all 19 (by omega)
  refine ⟨by omega, g1.trans hl, insS_allS hlt H h.all (by omega), fun k hk => ?_, fun t ht => by rw [g2 t (by omega)]; exact h.rest t (by omega)⟩
  by_cases hkq : k = q
  · subst hkq
    unfold Blk
    rw [show min 20 (l.length - k * 20) = 19 + 1 by omega, show k * 20 = 20 * k by omega, g3]
    congr 1
    exact seg_congr 0 fun i hi => h.rest _ (by omega)
  · exact (h.blk k (by omega)).same fun t h1 h2 => g2 t (by omega)

theorem First.last (hlt : ∀ u v, lt u v = decide (c u v < 0)) (H : Order lt S) {l L : List Int} {q : Nat} (h : First lt S l q L) (hq : l.length < 20 * q + 20) :
    (insS c (20 * q) (l.length - (20 * q + 1)) L).length = l.length ∧ AllS 0 S (insS c (20 * q) (l.length - (20 * q + 1)) L) ∧ ∀ k, Blk lt l 20 (insS c (20 * q) (l.length - (20 * q + 1)) L) (k * 20) := by
  have hl := h.len
  have hle := h.le
  by_cases he : 20 * q = l.length
  · rw [show l.length - (20 * q + 1) = 0 by omega]
    refine ⟨hl, h.all, fun k => ?_⟩
    by_cases hk : k < q
    · exact h.blk k hk
    · exact Blk.out (by omega)
  · obtain ⟨g1, g2, g3⟩ := insS_seg (a := 20 * q) lt hlt H h.all (l.length - (20 * q + 1)) (by omega)
    refine ⟨g1.trans hl, insS_allS hlt H h.all (by omega), fun k => ?_⟩
    by_cases hk : k < q
    · exact (h.blk k hk).same fun t h1 h2 => g2 t (by omega)
    · by_cases hkq : k = q
      · subst hkq
        unfold Blk
        rw [show min 20 (l.length - k * 20) = l.length - (20 * k + 1) + 1 by omega, show k * 20 = 20 * k by omega, g3]
        congr 1
        exact seg_congr 0 fun i hi => h.rest _ (by omega)
      · exact Blk.out (by omega)

/-- What holds ahead of each merge of a round. -/
structure Merging (lt : Int → Int → Bool) (S : Int → Prop) (l : List Int) (bs a q : Nat) (L : List Int) : Prop where
  at_ : a = q * (2 * bs)
  le : a ≤ l.length
  len : L.length = l.length
  all : AllS 0 S L
  done : ∀ k, k < q → Blk lt l (2 * bs) L (k * (2 * bs))
  todo : ∀ k, a ≤ k * bs → Blk lt l bs L (k * bs)

theorem Merging.start {l L : List Int} {bs : Nat} (hl : L.length = l.length) (hS : AllS 0 S L) (hb : ∀ k, Blk lt l bs L (k * bs)) : Merging lt S l bs 0 0 L := ⟨by omega, by omega, hl, hS, fun k hk => by omega, fun k _ => hb k⟩

theorem Merging.two {l L : List Int} {bs a q : Nat} (h : Merging lt S l bs a q L) : Blk lt l bs L a ∧ Blk lt l bs L (a + bs) := by
  have e1 : 2 * q * bs = a := by rw [h.at_, Nat.mul_comm 2 q, Nat.mul_assoc]
  have e2 : (2 * q + 1) * bs = a + bs := by rw [Nat.add_mul, Nat.one_mul, e1]
  refine ⟨?_, ?_⟩
  · rw [← e1]; exact h.todo _ (by omega)
  · rw [← e2]; exact h.todo _ (by omega)

theorem Merging.rise1 (H : Order lt S) {l L : List Int} {bs a q : Nat} (hS : AllS 0 S l) (h : Merging lt S l bs a q L) (he : a + bs ≤ l.length) : RisesS 0 lt L a (a + bs) := h.two.1.rises H hS (Nat.le_refl _) he
theorem Merging.rise2 (H : Order lt S) {l L : List Int} {bs a q e : Nat} (hS : AllS 0 S l) (h : Merging lt S l bs a q L) (he : e ≤ a + 2 * bs) (hel : e ≤ l.length) : RisesS 0 lt L (a + bs) e := h.two.2.rises H hS (by omega) hel

theorem Merging.old {l L M : List Int} {bs a q e k : Nat} (h : Merging lt S l bs a q L) (hp : SymP 0 lt L a (a + bs) e M) (hk : k < q) : Blk lt l (2 * bs) M (k * (2 * bs)) := by
  have hle : (k + 1) * (2 * bs) ≤ q * (2 * bs) := Nat.mul_le_mul_right _ hk
  rw [Nat.add_mul, Nat.one_mul, ← h.at_] at hle
  exact (h.done k hk).same fun t h1 h2 => hp.2.1 t (by omega)

theorem Merging.step (H : Order lt S) {l L M : List Int} {bs a q : Nat} (hS : AllS 0 S l) (h : Merging lt S l bs a q L) (hb : 0 < bs) (he : a + 2 * bs ≤ l.length) (hp : SymP 0 lt L a (a + bs) (a + 2 * bs) M) : Merging lt S l bs (a + 2 * bs) (q + 1) M := by
  have hl := h.len
  refine ⟨by rw [Nat.add_mul, Nat.one_mul, ← h.at_], he, hp.1.trans hl, SymP.all 0 lt h.all hp (by omega) (by omega) (by omega), fun k hk => ?_, fun k hk => (h.todo k (by omega)).same fun t h1 h2 => hp.2.1 t (by omega)⟩
  by_cases hkq : k = q
  · subst hkq
    rw [← h.at_]
    exact Blk.merge H hS h.two.1 h.two.2 (by omega) (by omega) hp
  · exact h.old hp (by omega)

theorem Merging.last (H : Order lt S) {l L M : List Int} {bs a q : Nat} (hS : AllS 0 S l) (h : Merging lt S l bs a q L) (hb : 0 < bs) (he : l.length < a + 2 * bs) (hm : a + bs < l.length) (hp : SymP 0 lt L a (a + bs) l.length M) :
    M.length = l.length ∧ AllS 0 S M ∧ ∀ k, Blk lt l (2 * bs) M (k * (2 * bs)) := by
  have hl := h.len
  refine ⟨hp.1.trans hl, SymP.all 0 lt h.all hp (by omega) (by omega) (by omega), fun k => ?_⟩
  by_cases hkq : k = q
  · subst hkq
    rw [← h.at_]
    exact Blk.merge H hS h.two.1 h.two.2 (by omega) hm hp
  · by_cases hk : k < q
    · exact h.old hp hk
    · have hle : (q + 1) * (2 * bs) ≤ k * (2 * bs) := Nat.mul_le_mul_right _ (by omega)
      rw [Nat.add_mul, Nat.one_mul, ← h.at_] at hle
      exact Blk.out (by omega)

theorem Merging.idle {l L : List Int} {bs a q : Nat} (h : Merging lt S l bs a q L) (hm : l.length ≤ a + bs) (hb : 0 < bs) : ∀ k, Blk lt l (2 * bs) L (k * (2 * bs)) := fun k => by
  by_cases hkq : k = q
  · subst hkq
    rw [← h.at_]
    exact h.two.1.wide hm
  · by_cases hk : k < q
    · exact h.done k hk
    · have hle : (q + 1) * (2 * bs) ≤ k * (2 * bs) := Nat.mul_le_mul_right _ (by omega)
      rw [Nat.add_mul, Nat.one_mul, ← h.at_] at hle
      exact Blk.out (by omega)

end
end Go.Proofs.Ythaokdobgmbeeaa
