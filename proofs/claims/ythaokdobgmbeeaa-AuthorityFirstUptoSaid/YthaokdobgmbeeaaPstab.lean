/-
  CHAPTER 16: the blocks of slices.SortStableFunc, in plain Lean: what it makes is what the insertion sort makes.
-/
import Derived.Test.YthaokdobgmbeeaaPsym
import Derived.Test.YthaokdobgmbeeaaPrank
set_option linter.unusedVariables false
namespace Go.Proofs.Ythaokdobgmbeeaa
open Go Sx

section
variable {c : Int → Int → Int} {S : Int → Prop}

theorem bub_down (lt : Int → Int → Bool) (hlt : ∀ u v, lt u v = decide (c u v < 0)) {L : List Int} {a m : Nat} (hm : m < L.length) : ∀ (k : Nat) (Lk : List Int), a ≤ k → k ≤ m → DownP 0 L m k Lk → (∀ t, k ≤ t → t < m → lt (L.getD m 0) (L.getD t 0) = true) →
    ∃ i, a ≤ i ∧ i ≤ m ∧ DownP 0 L m i (bub c a k Lk) ∧ (i = a ∨ lt (L.getD m 0) (L.getD (i - 1) 0) = false) ∧ ∀ t, i ≤ t → t < m → lt (L.getD m 0) (L.getD t 0) = true
  | 0, Lk, h1, h2, hd, hs => ⟨0, h1, h2, hd, .inl (by omega), hs⟩
  | k + 1, Lk, h1, h2, hd, hs => by
    have e1 := hd.2 (k + 1)
    have e2 := hd.2 k
    rw [if_neg (by omega), if_pos rfl] at e1
    rw [if_neg (by omega), if_neg (by omega)] at e2
    rw [bub, e1, e2]
    by_cases hg : a < k + 1 ∧ c (L.getD m 0) (L.getD k 0) < 0
    · rw [if_pos hg]
      have hst := DownP.step 0 hd h2 hm
      rw [e1, e2] at hst
      refine bub_down lt hlt hm k _ (by omega) (by omega) hst (fun t g1 g2 => ?_)
      by_cases ht : t = k
      · rw [ht, hlt]; exact decide_eq_true hg.2
      · exact hs t (by omega) g2
    · rw [if_neg hg]
      refine ⟨k + 1, h1, h2, hd, ?_, hs⟩
      by_cases hk : k + 1 = a
      · exact .inl hk
      · right
        rw [show k + 1 - 1 = k by omega, hlt]
        exact decide_eq_false (fun hc => hg ⟨by omega, hc⟩)

theorem rises_of_seg {lt : Int → Int → Bool} {L : List Int} {s n : Nat} (h : Rises 0 lt (seg 0 L s n)) : RisesS 0 lt L s (s + n) := by
  intro i j h1 h2 h3
  have := h (i - s) (j - s) (by omega) (by rw [seg_len]; omega)
  rw [seg_at 0 L s n _ (by omega), seg_at 0 L s n _ (by omega), show s + (i - s) = i by omega, show s + (j - s) = j by omega] at this
  exact this

/-- The insertion sort of a segment. -/
theorem insS_seg (lt : Int → Int → Bool) (hlt : ∀ u v, lt u v = decide (c u v < 0)) (H : Order lt S) {L : List Int} {a : Nat} (hS : AllS 0 S L) : ∀ k, a + 1 + k ≤ L.length →
    (insS c a k L).length = L.length ∧ (∀ t, t < a ∨ a + 1 + k ≤ t → (insS c a k L).getD t 0 = L.getD t 0) ∧ seg 0 (insS c a k L) a (k + 1) = isort lt (seg 0 L a (k + 1))
  | 0, _ => ⟨rfl, fun _ _ => rfl, by simp only [insS, Nat.zero_add, seg_one]; rfl⟩
  | k + 1, h => by
    obtain ⟨g1, g2, g3⟩ := insS_seg (a := a) lt hlt H hS k (by omega)
    have hmem : ∀ x ∈ seg 0 L a (k + 1), S x := fun x hx => by
      obtain ⟨i, hi, rfl⟩ := (mem_seg 0).1 hx
      exact hS _ (by omega)
    have hr : RisesS 0 lt (insS c a k L) a (a + (k + 1)) := rises_of_seg (by rw [g3]; exact isort_rises 0 lt H _ hmem)
    have hlast : (insS c a k L).getD (a + 1 + k) 0 = L.getD (a + 1 + k) 0 := g2 _ (by omega)
    obtain ⟨i, i1, i2, i3, i4, i5⟩ := bub_down lt hlt (L := insS c a k L) (a := a) (m := a + 1 + k) (by rw [g1]; omega) (a + 1 + k) (insS c a k L) (by omega) (Nat.le_refl _) (DownP.zero 0 _ _) (fun t h1 h2 => by omega)
    have hall : AllS 0 S (insS c a k L) := fun t ht => by
      by_cases hin : t < a ∨ a + 1 + k ≤ t
      · rw [g2 t hin]; exact hS t (by rw [← g1]; exact ht)
      · have hmem2 : (insS c a k L).getD t 0 ∈ seg 0 (insS c a k L) a (k + 1) := (mem_seg 0).2 ⟨t - a, by omega, by congr 1; omega⟩
        rw [g3] at hmem2
        exact hmem _ ((mem_isort lt _ _).1 hmem2)
    have hd1 : ∀ t, a ≤ t → t < i → lt ((insS c a k L).getD (a + 1 + k) 0) ((insS c a k L).getD t 0) = false := fun t q1 q2 => by
      rcases i4 with h4 | h4
      · omega
      · by_cases ht : t = i - 1
        · rw [ht]; exact h4
        · exact H.tr _ _ _ (hall t (by omega)) (hall (i - 1) (by omega)) (hall (a + 1 + k) (by omega)) (hr t (i - 1) q1 (by omega) (by omega)) h4
    have hsym := DownP.sym 0 lt i3 i1 i2 hd1 i5
    rw [insS]
    refine ⟨hsym.1.trans g1, fun t ht => by rw [hsym.2.1 t (by omega)]; exact g2 t (by omega), ?_⟩
    have e := hsym.2.2
    rw [show a + 1 + k + 1 - a = k + 1 + 1 by omega, show a + 1 + k - a = k + 1 by omega, show a + 1 + k + 1 - (a + 1 + k) = 1 by omega, seg_one, hlast, g3] at e
    rw [e, seg_add 0 L a (k + 1) 1, seg_one, isort_snoc, show a + (k + 1) = a + 1 + k by omega]
    have hy : S (L.getD (a + 1 + k) 0) := hS _ (by omega)
    have := insR_mergeL lt H hy (isort lt (seg 0 L a (k + 1))) [] (fun x hx => hmem x ((mem_isort lt _ _).1 hx)) (fun x hx => by cases hx)
    rw [mergeL_nil] at this
    exact this

/-- The block of bs places from place s on is sorted. -/
def Blk (lt : Int → Int → Bool) (l : List Int) (bs : Nat) (L : List Int) (s : Nat) : Prop := seg 0 L s (min bs (l.length - s)) = isort lt (seg 0 l s (min bs (l.length - s)))

theorem Blk.out {lt : Int → Int → Bool} {l L : List Int} {bs s : Nat} (h : l.length ≤ s) : Blk lt l bs L s := by
  unfold Blk
  rw [show min bs (l.length - s) = 0 by omega, seg_zero, seg_zero]; rfl
theorem Blk.same {lt : Int → Int → Bool} {l L L' : List Int} {bs s : Nat} (h : Blk lt l bs L s) (hs : ∀ t, s ≤ t → t < s + bs → L'.getD t 0 = L.getD t 0) : Blk lt l bs L' s := by
  unfold Blk at *
  rw [← h]
  exact seg_congr 0 fun i hi => hs _ (by omega) (by omega)
theorem Blk.wide {lt : Int → Int → Bool} {l L : List Int} {bs s : Nat} (h : Blk lt l bs L s) (hs : l.length ≤ s + bs) : Blk lt l (2 * bs) L s := by
  unfold Blk at *
  rw [show min (2 * bs) (l.length - s) = min bs (l.length - s) by omega]
  exact h
theorem Blk.rises {lt : Int → Int → Bool} (H : Order lt S) {l L : List Int} {bs s e : Nat} (hS : AllS 0 S l) (h : Blk lt l bs L s) (he : e ≤ s + bs) (hel : e ≤ l.length) : RisesS 0 lt L s e := by
  have hr := isort_rises 0 lt H (seg 0 l s (min bs (l.length - s))) (fun x hx => by
    obtain ⟨i, hi, rfl⟩ := (mem_seg 0).1 hx
    exact hS _ (by omega))
  rw [← h] at hr
  have := rises_of_seg hr
  intro i j h1 h2 h3
  exact this i j h1 h2 (by omega)
/-- Two blocks, the second one maybe short, merged. -/
theorem Blk.merge {lt : Int → Int → Bool} (H : Order lt S) {l L L' : List Int} {bs a e : Nat} (hS : AllS 0 S l) (h1 : Blk lt l bs L a) (h2 : Blk lt l bs L (a + bs)) (he : e = min (a + 2 * bs) l.length) (hlt : a + bs < e)
    (hp : SymP 0 lt L a (a + bs) e L') : Blk lt l (2 * bs) L' a := by
  have hel : e ≤ l.length := by omega
  have heb : e ≤ a + 2 * bs := by omega
  have m1 : min bs (l.length - a) = bs := by omega
  have m2 : min bs (l.length - (a + bs)) = e - (a + bs) := by omega
  have m3 : min (2 * bs) (l.length - a) = e - a := by omega
  unfold Blk at *
  rw [m1] at h1
  rw [m2] at h2
  rw [m3, hp.2.2, show a + bs - a = bs by omega, h1, h2, show e - a = bs + (e - (a + bs)) by omega, seg_add]
  refine (isort_append lt H _ (fun x hx => ?_) _ _ rfl (fun x hx => ?_)).symm
  · obtain ⟨i, hi, rfl⟩ := (mem_seg 0).1 hx
    exact hS _ (by omega)
  · obtain ⟨i, hi, rfl⟩ := (mem_seg 0).1 hx
    exact hS _ (by omega)

theorem Blk.whole {lt : Int → Int → Bool} {l L : List Int} {bs : Nat} (h : Blk lt l bs L 0) (hL : L.length = l.length) (hb : l.length ≤ bs) : L = isort lt l := by
  unfold Blk at h
  rw [Nat.sub_zero, show min bs l.length = l.length by omega, seg_all] at h
  rw [← h, ← hL, seg_all]

/-- The insertion sort of all. -/
theorem insS_all (lt : Int → Int → Bool) (hlt : ∀ u v, lt u v = decide (c u v < 0)) (H : Order lt S) {l : List Int} (hS : AllS 0 S l) : insS c 0 (l.length - (0 + 1)) l = isort lt l := by
  by_cases h0 : l.length = 0
  · rw [List.length_eq_zero_iff.1 h0]; rfl
  · obtain ⟨g1, _, g3⟩ := insS_seg lt hlt H (L := l) (a := 0) hS (l.length - (0 + 1)) (by omega)
    rw [show l.length - (0 + 1) + 1 = l.length by omega, seg_all] at g3
    rw [← g3]
    conv => lhs; rw [← seg_all 0 (insS c 0 (l.length - (0 + 1)) l)]
    rw [g1]

end

/-- The order of a rank is an order. -/
theorem ltI_is (osds : List Int) (infos : List Inf) (self u v : Int) : ltI osds infos self u v = true ↔
    (infF (infos.getD (Int.toNat v) dI) (infos.getD (Int.toNat u) dI) < 0 ∨ (infF (infos.getD (Int.toNat v) dI) (infos.getD (Int.toNat u) dI) = 0 ∧ osds.getD (Int.toNat u) 0 ≠ osds.getD (Int.toNat v) 0 ∧ (osds.getD (Int.toNat u) 0 = self ∨ (osds.getD (Int.toNat v) 0 ≠ self ∧ osds.getD (Int.toNat u) 0 < osds.getD (Int.toNat v) 0)))) := by
  unfold ltI rankF
  rw [decide_eq_true_eq]
  (repeat' split) <;> omega

theorem rank_order (osds : List Int) (infos : List Inf) (self : Int) (S : Int → Prop) : Order (ltI osds infos self) S := by
  have nf : ∀ u v, ltI osds infos self u v = false ↔ ¬ ltI osds infos self u v = true := fun u v => by simp
  refine ⟨fun x y z _ _ _ h1 h2 => ?_, fun x y _ _ h1 => ?_⟩
  · rw [nf, ltI_is] at *
    have t1 := infF_trans (infos.getD (Int.toNat x) dI) (infos.getD (Int.toNat y) dI) (infos.getD (Int.toNat z) dI)
    have t2 := infF_trans (infos.getD (Int.toNat z) dI) (infos.getD (Int.toNat x) dI) (infos.getD (Int.toNat y) dI)
    have t3 := infF_trans (infos.getD (Int.toNat y) dI) (infos.getD (Int.toNat z) dI) (infos.getD (Int.toNat x) dI)
    have a1 := infF_anti (infos.getD (Int.toNat x) dI) (infos.getD (Int.toNat y) dI)
    have a2 := infF_anti (infos.getD (Int.toNat y) dI) (infos.getD (Int.toNat z) dI)
    have a3 := infF_anti (infos.getD (Int.toNat x) dI) (infos.getD (Int.toNat z) dI)
    omega
  · rw [nf, ltI_is]
    rw [ltI_is] at h1
    have a1 := infF_anti (infos.getD (Int.toNat x) dI) (infos.getD (Int.toNat y) dI)
    omega

end Go.Proofs.Ythaokdobgmbeeaa
