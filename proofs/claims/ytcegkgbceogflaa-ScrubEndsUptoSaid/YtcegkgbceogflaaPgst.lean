/-
  The rounds of slices.SortStableFunc, in plain Lean: whatever the elements and their order.
-/
import Derived.Test.YtcegkgbceogflaaPsym
set_option linter.unusedVariables false
set_option linter.unusedSectionVars false
namespace Go.Proofs.Ytcegkgbceogflaa
open Go Sx

section
variable {α : Type} {d : α}
/-- The number at place j goes down to where it belongs, not below place a. -/
def bub (d : α) (c : α → α → Int) (a : Nat) : Nat → List α → List α
  | 0, l => l
  | j + 1, l => if a < j + 1 ∧ c (l.getD (j + 1) d) (l.getD j d) < 0 then bub d c a j ((l.set (j + 1) (l.getD j d)).set j (l.getD (j + 1) d)) else l

/-- From place a on, k more numbers are put where they belong. -/
def insS (d : α) (c : α → α → Int) (a : Nat) : Nat → List α → List α
  | 0, l => l
  | k + 1, l => bub d c a (a + 1 + k) (insS d c a k l)

theorem bub_stop {c : α → α → Int} {a j : Nat} {l : List α} (h : ¬ a < j) : bub d c a j l = l := by
  cases j with
  | zero => rfl
  | succ j => rw [bub, if_neg (fun hc => h hc.1)]
theorem bub_end {c : α → α → Int} {a j : Nat} {l : List α} (h : ¬ c (l.getD j d) (l.getD (j - 1) d) < 0) : bub d c a j l = l := by
  cases j with
  | zero => rfl
  | succ j => rw [bub, if_neg (fun hc => h hc.2)]
theorem bub_go {c : α → α → Int} {a j : Nat} {l : List α} (h : a < j) (h2 : c (l.getD j d) (l.getD (j - 1) d) < 0) : bub d c a j l = bub d c a (j - 1) ((l.set j (l.getD (j - 1) d)).set (j - 1) (l.getD j d)) := by
  cases j with
  | zero => omega
  | succ j => rw [bub, if_pos ⟨h, h2⟩]; rfl

theorem insS_step {c : α → α → Int} {a i : Nat} {l : List α} (h : a + 1 ≤ i) : insS d c a (i + 1 - (a + 1)) l = bub d c a i (insS d c a (i - (a + 1)) l) := by
  rw [show i + 1 - (a + 1) = (i - (a + 1)) + 1 by omega, insS, show a + 1 + (i - (a + 1)) = i by omega]

theorem bub_len {c : α → α → Int} {a : Nat} : ∀ (j : Nat) (l : List α), (bub d c a j l).length = l.length
  | 0, l => rfl
  | j + 1, l => by
    rw [bub]
    split
    · rw [bub_len j]; simp
    · rfl
theorem insS_len {c : α → α → Int} {a : Nat} : ∀ (k : Nat) (l : List α), (insS d c a k l).length = l.length
  | 0, l => rfl
  | k + 1, l => by rw [insS, bub_len, insS_len k]
variable {c : α → α → Int} {S : α → Prop}
theorem bub_down (lt : α → α → Bool) (hlt : ∀ u v, lt u v = decide (c u v < 0)) {L : List α} {a m : Nat} (hm : m < L.length) : ∀ (k : Nat) (Lk : List α), a ≤ k → k ≤ m → DownP d L m k Lk → (∀ t, k ≤ t → t < m → lt (L.getD m d) (L.getD t d) = true) →
    ∃ i, a ≤ i ∧ i ≤ m ∧ DownP d L m i (bub d c a k Lk) ∧ (i = a ∨ lt (L.getD m d) (L.getD (i - 1) d) = false) ∧ ∀ t, i ≤ t → t < m → lt (L.getD m d) (L.getD t d) = true
  | 0, Lk, h1, h2, hd, hs => ⟨0, h1, h2, hd, .inl (by omega), hs⟩
  | k + 1, Lk, h1, h2, hd, hs => by
    have e1 := hd.2 (k + 1)
    have e2 := hd.2 k
    rw [if_neg (by omega), if_pos rfl] at e1
    rw [if_neg (by omega), if_neg (by omega)] at e2
    rw [bub, e1, e2]
    by_cases hg : a < k + 1 ∧ c (L.getD m d) (L.getD k d) < 0
    · rw [if_pos hg]
      have hst := DownP.step d hd h2 hm
      rw [e1, e2] at hst
      refine bub_down lt hlt hm k _ (by omega) (by omega) hst (fun t g1 g2 => ?_)
      by_cases ht : t = k
      · rw [ht, hlt]; exact decide_eq_true hg.2
      · exact hs t (by omega) g2
    · rw [if_neg hg]
      refine ⟨k + 1, h1, h2, hd, ?_, hs⟩
      by_cases hk : k + 1 = a
      · exact .inl hk
      · right
        rw [show k + 1 - 1 = k by omega, hlt]
        exact decide_eq_false (fun hc => hg ⟨by omega, hc⟩)

theorem rises_of_seg {lt : α → α → Bool} {L : List α} {s n : Nat} (h : Rises d lt (seg d L s n)) : RisesS d lt L s (s + n) := by
  intro i j h1 h2 h3
  have := h (i - s) (j - s) (by omega) (by rw [seg_len]; omega)
  rw [seg_at d L s n _ (by omega), seg_at d L s n _ (by omega), show s + (i - s) = i by omega, show s + (j - s) = j by omega] at this
  exact this

/-- The insertion sort of a segment. -/
theorem insS_seg (lt : α → α → Bool) (hlt : ∀ u v, lt u v = decide (c u v < 0)) (H : Order lt S) {L : List α} {a : Nat} (hS : AllS d S L) : ∀ k, a + 1 + k ≤ L.length →
    (insS d c a k L).length = L.length ∧ (∀ t, t < a ∨ a + 1 + k ≤ t → (insS d c a k L).getD t d = L.getD t d) ∧ seg d (insS d c a k L) a (k + 1) = isort lt (seg d L a (k + 1))
  | 0, _ => ⟨rfl, fun _ _ => rfl, by simp only [insS, Nat.zero_add, seg_one]; rfl⟩
  | k + 1, h => by
    obtain ⟨g1, g2, g3⟩ := insS_seg (a := a) lt hlt H hS k (by omega)
    have hmem : ∀ x ∈ seg d L a (k + 1), S x := fun x hx => by
      obtain ⟨i, hi, rfl⟩ := (mem_seg d).1 hx
      exact hS _ (by omega)
    have hr : RisesS d lt (insS d c a k L) a (a + (k + 1)) := rises_of_seg (by rw [g3]; exact isort_rises d lt H _ hmem)
    have hlast : (insS d c a k L).getD (a + 1 + k) d = L.getD (a + 1 + k) d := g2 _ (by omega)
    obtain ⟨i, i1, i2, i3, i4, i5⟩ := bub_down lt hlt (L := insS d c a k L) (a := a) (m := a + 1 + k) (by rw [g1]; omega) (a + 1 + k) (insS d c a k L) (by omega) (Nat.le_refl _) (DownP.zero d _ _) (fun t h1 h2 => by omega)
    have hall : AllS d S (insS d c a k L) := fun t ht => by
      by_cases hin : t < a ∨ a + 1 + k ≤ t
      · rw [g2 t hin]; exact hS t (by rw [← g1]; exact ht)
      · have hmem2 : (insS d c a k L).getD t d ∈ seg d (insS d c a k L) a (k + 1) := (mem_seg d).2 ⟨t - a, by omega, by congr 1; omega⟩
        rw [g3] at hmem2
        exact hmem _ ((mem_isort lt _ _).1 hmem2)
    have hd1 : ∀ t, a ≤ t → t < i → lt ((insS d c a k L).getD (a + 1 + k) d) ((insS d c a k L).getD t d) = false := fun t q1 q2 => by
      rcases i4 with h4 | h4
      · omega
      · by_cases ht : t = i - 1
        · rw [ht]; exact h4
        · exact H.tr _ _ _ (hall t (by omega)) (hall (i - 1) (by omega)) (hall (a + 1 + k) (by omega)) (hr t (i - 1) q1 (by omega) (by omega)) h4
    have hsym := DownP.sym d lt i3 i1 i2 hd1 i5
    rw [insS]
    refine ⟨hsym.1.trans g1, fun t ht => by rw [hsym.2.1 t (by omega)]; exact g2 t (by omega), ?_⟩
    have e := hsym.2.2
    rw [show a + 1 + k + 1 - a = k + 1 + 1 by omega, show a + 1 + k - a = k + 1 by omega, show a + 1 + k + 1 - (a + 1 + k) = 1 by omega, seg_one, hlast, g3] at e
    rw [e, seg_add d L a (k + 1) 1, seg_one, isort_snoc, show a + (k + 1) = a + 1 + k by omega]
    have hy : S (L.getD (a + 1 + k) d) := hS _ (by omega)
    have := insR_mergeL lt H hy (isort lt (seg d L a (k + 1))) [] (fun x hx => hmem x ((mem_isort lt _ _).1 hx)) (fun x hx => by cases hx)
    rw [mergeL_nil] at this
    exact this

/-- The block of bs places from place s on is sorted. -/
def Blk (d : α) (lt : α → α → Bool) (l : List α) (bs : Nat) (L : List α) (s : Nat) : Prop := seg d L s (min bs (l.length - s)) = isort lt (seg d l s (min bs (l.length - s)))

theorem Blk.out {lt : α → α → Bool} {l L : List α} {bs s : Nat} (h : l.length ≤ s) : Blk d lt l bs L s := by
  unfold Blk
  rw [show min bs (l.length - s) = 0 by omega, seg_zero, seg_zero]; rfl
theorem Blk.same {lt : α → α → Bool} {l L L' : List α} {bs s : Nat} (h : Blk d lt l bs L s) (hs : ∀ t, s ≤ t → t < s + bs → L'.getD t d = L.getD t d) : Blk d lt l bs L' s := by
  unfold Blk at *
  rw [← h]
  exact seg_congr d fun i hi => hs _ (by omega) (by omega)
theorem Blk.wide {lt : α → α → Bool} {l L : List α} {bs s : Nat} (h : Blk d lt l bs L s) (hs : l.length ≤ s + bs) : Blk d lt l (2 * bs) L s := by
  unfold Blk at *
  rw [show min (2 * bs) (l.length - s) = min bs (l.length - s) by omega]
  exact h
theorem Blk.rises {lt : α → α → Bool} (H : Order lt S) {l L : List α} {bs s e : Nat} (hS : AllS d S l) (h : Blk d lt l bs L s) (he : e ≤ s + bs) (hel : e ≤ l.length) : RisesS d lt L s e := by
  have hr := isort_rises d lt H (seg d l s (min bs (l.length - s))) (fun x hx => by
    obtain ⟨i, hi, rfl⟩ := (mem_seg d).1 hx
    exact hS _ (by omega))
  rw [← h] at hr
  have := rises_of_seg hr
  intro i j h1 h2 h3
  exact this i j h1 h2 (by omega)
/-- Two blocks, the second one maybe short, merged. -/
theorem Blk.merge {lt : α → α → Bool} (H : Order lt S) {l L L' : List α} {bs a e : Nat} (hS : AllS d S l) (h1 : Blk d lt l bs L a) (h2 : Blk d lt l bs L (a + bs)) (he : e = min (a + 2 * bs) l.length) (hlt : a + bs < e)
    (hp : SymP d lt L a (a + bs) e L') : Blk d lt l (2 * bs) L' a := by
  have hel : e ≤ l.length := by omega
  have heb : e ≤ a + 2 * bs := by omega
  have m1 : min bs (l.length - a) = bs := by omega
  have m2 : min bs (l.length - (a + bs)) = e - (a + bs) := by omega
  have m3 : min (2 * bs) (l.length - a) = e - a := by omega
  unfold Blk at *
  rw [m1] at h1
  rw [m2] at h2
  rw [m3, hp.2.2, show a + bs - a = bs by omega, h1, h2, show e - a = bs + (e - (a + bs)) by omega, seg_add]
  refine (isort_append lt H _ (fun x hx => ?_) _ _ rfl (fun x hx => ?_)).symm
  · obtain ⟨i, hi, rfl⟩ := (mem_seg d).1 hx
    exact hS _ (by omega)
  · obtain ⟨i, hi, rfl⟩ := (mem_seg d).1 hx
    exact hS _ (by omega)

theorem Blk.whole {lt : α → α → Bool} {l L : List α} {bs : Nat} (h : Blk d lt l bs L 0) (hL : L.length = l.length) (hb : l.length ≤ bs) : L = isort lt l := by
  unfold Blk at h
  rw [Nat.sub_zero, show min bs l.length = l.length by omega, seg_all] at h
  rw [← h, ← hL, seg_all]

section
variable {lt : α → α → Bool}
theorem insS_allS (hlt : ∀ u v, lt u v = decide (c u v < 0)) (H : Order lt S) {L : List α} {a k : Nat} (hS : AllS d S L) (hk : a + 1 + k ≤ L.length) : AllS d S (insS d c a k L) := by
  obtain ⟨g1, g2, g3⟩ := insS_seg (a := a) lt hlt H hS k hk
  intro t ht
  by_cases hin : t < a ∨ a + 1 + k ≤ t
  · rw [g2 t hin]; exact hS t (by rw [← g1]; exact ht)
  · have hmem2 : (insS d c a k L).getD t d ∈ seg d (insS d c a k L) a (k + 1) := (mem_seg d).2 ⟨t - a, by omega, by congr 1; omega⟩
    rw [g3] at hmem2
    obtain ⟨i, hi, he⟩ := (mem_seg d).1 ((mem_isort lt _ _).1 hmem2)
    rw [he]
    exact hS _ (by omega)

/-- What holds ahead of each round of the first loop. -/
structure First (d : α) (lt : α → α → Bool) (S : α → Prop) (l : List α) (q : Nat) (L : List α) : Prop where
  le : 20 * q ≤ l.length
  len : L.length = l.length
  all : AllS d S L
  blk : ∀ k, k < q → Blk d lt l 20 L (k * 20)
  rest : ∀ t, 20 * q ≤ t → L.getD t d = l.getD t d

theorem First.start {l : List α} (hS : AllS d S l) : First d lt S l 0 l := ⟨by omega, rfl, hS, fun k hk => by omega, fun _ _ => rfl⟩

theorem First.step (hlt : ∀ u v, lt u v = decide (c u v < 0)) (H : Order lt S) {l L : List α} {q : Nat} (h : First d lt S l q L) (hq : 20 * q + 20 ≤ l.length) : First d lt S l (q + 1) (insS d c (20 * q) (20 * q + 20 - (20 * q + 1)) L) := by
  have hl := h.len
  rw [show 20 * q + 20 - (20 * q + 1) = 19 by omega]
  obtain ⟨g1, g2, g3⟩ := insS_seg (a := 20 * q) lt hlt H h.all 19 (by omega)
  refine ⟨by omega, g1.trans hl, insS_allS hlt H h.all (by omega), fun k hk => ?_, fun t ht => by rw [g2 t (by omega)]; exact h.rest t (by omega)⟩
  by_cases hkq : k = q
  · subst hkq
    unfold Blk
    rw [show min 20 (l.length - k * 20) = 19 + 1 by omega, show k * 20 = 20 * k by omega, g3]
    congr 1
    exact seg_congr d fun i hi => h.rest _ (by omega)
  · exact (h.blk k (by omega)).same fun t h1 h2 => g2 t (by omega)

theorem First.last (hlt : ∀ u v, lt u v = decide (c u v < 0)) (H : Order lt S) {l L : List α} {q : Nat} (h : First d lt S l q L) (hq : l.length < 20 * q + 20) :
    (insS d c (20 * q) (l.length - (20 * q + 1)) L).length = l.length ∧ AllS d S (insS d c (20 * q) (l.length - (20 * q + 1)) L) ∧ ∀ k, Blk d lt l 20 (insS d c (20 * q) (l.length - (20 * q + 1)) L) (k * 20) := by
  have hl := h.len
  have hle := h.le
  by_cases he : 20 * q = l.length
  · rw [show l.length - (20 * q + 1) = 0 by omega]
    refine ⟨hl, h.all, fun k => ?_⟩
    by_cases hk : k < q
    · exact h.blk k hk
    · exact Blk.out (by omega)
  · obtain ⟨g1, g2, g3⟩ := insS_seg (a := 20 * q) lt hlt H h.all (l.length - (20 * q + 1)) (by omega)
    refine ⟨g1.trans hl, insS_allS hlt H h.all (by omega), fun k => ?_⟩
    by_cases hk : k < q
    · exact (h.blk k hk).same fun t h1 h2 => g2 t (by omega)
    · by_cases hkq : k = q
      · subst hkq
        unfold Blk
        rw [show min 20 (l.length - k * 20) = l.length - (20 * k + 1) + 1 by omega, show k * 20 = 20 * k by omega, g3]
        congr 1
        exact seg_congr d fun i hi => h.rest _ (by omega)
      · exact Blk.out (by omega)

/-- What holds ahead of each merge of a round. -/
structure Merging (d : α) (lt : α → α → Bool) (S : α → Prop) (l : List α) (bs a q : Nat) (L : List α) : Prop where
  at_ : a = q * (2 * bs)
  le : a ≤ l.length
  len : L.length = l.length
  all : AllS d S L
  done : ∀ k, k < q → Blk d lt l (2 * bs) L (k * (2 * bs))
  todo : ∀ k, a ≤ k * bs → Blk d lt l bs L (k * bs)

theorem Merging.start {l L : List α} {bs : Nat} (hl : L.length = l.length) (hS : AllS d S L) (hb : ∀ k, Blk d lt l bs L (k * bs)) : Merging d lt S l bs 0 0 L := ⟨by omega, by omega, hl, hS, fun k hk => by omega, fun k _ => hb k⟩

theorem Merging.two {l L : List α} {bs a q : Nat} (h : Merging d lt S l bs a q L) : Blk d lt l bs L a ∧ Blk d lt l bs L (a + bs) := by
  have e1 : 2 * q * bs = a := by rw [h.at_, Nat.mul_comm 2 q, Nat.mul_assoc]
  have e2 : (2 * q + 1) * bs = a + bs := by rw [Nat.add_mul, Nat.one_mul, e1]
  refine ⟨?_, ?_⟩
  · rw [← e1]; exact h.todo _ (by omega)
  · rw [← e2]; exact h.todo _ (by omega)

theorem Merging.rise1 (H : Order lt S) {l L : List α} {bs a q : Nat} (hS : AllS d S l) (h : Merging d lt S l bs a q L) (he : a + bs ≤ l.length) : RisesS d lt L a (a + bs) := h.two.1.rises H hS (Nat.le_refl _) he
theorem Merging.rise2 (H : Order lt S) {l L : List α} {bs a q e : Nat} (hS : AllS d S l) (h : Merging d lt S l bs a q L) (he : e ≤ a + 2 * bs) (hel : e ≤ l.length) : RisesS d lt L (a + bs) e := h.two.2.rises H hS (by omega) hel

theorem Merging.old {l L M : List α} {bs a q e k : Nat} (h : Merging d lt S l bs a q L) (hp : SymP d lt L a (a + bs) e M) (hk : k < q) : Blk d lt l (2 * bs) M (k * (2 * bs)) := by
  have hle : (k + 1) * (2 * bs) ≤ q * (2 * bs) := Nat.mul_le_mul_right _ hk
  rw [Nat.add_mul, Nat.one_mul, ← h.at_] at hle
  exact (h.done k hk).same fun t h1 h2 => hp.2.1 t (by omega)

theorem Merging.step (H : Order lt S) {l L M : List α} {bs a q : Nat} (hS : AllS d S l) (h : Merging d lt S l bs a q L) (hb : 0 < bs) (he : a + 2 * bs ≤ l.length) (hp : SymP d lt L a (a + bs) (a + 2 * bs) M) : Merging d lt S l bs (a + 2 * bs) (q + 1) M := by
  have hl := h.len
  refine ⟨by rw [Nat.add_mul, Nat.one_mul, ← h.at_], he, hp.1.trans hl, SymP.all d lt h.all hp (by omega) (by omega) (by omega), fun k hk => ?_, fun k hk => (h.todo k (by omega)).same fun t h1 h2 => hp.2.1 t (by omega)⟩
  by_cases hkq : k = q
  · subst hkq
    rw [← h.at_]
    exact Blk.merge H hS h.two.1 h.two.2 (by omega) (by omega) hp
  · exact h.old hp (by omega)

theorem Merging.last (H : Order lt S) {l L M : List α} {bs a q : Nat} (hS : AllS d S l) (h : Merging d lt S l bs a q L) (hb : 0 < bs) (he : l.length < a + 2 * bs) (hm : a + bs < l.length) (hp : SymP d lt L a (a + bs) l.length M) :
    M.length = l.length ∧ AllS d S M ∧ ∀ k, Blk d lt l (2 * bs) M (k * (2 * bs)) := by
  have hl := h.len
  refine ⟨hp.1.trans hl, SymP.all d lt h.all hp (by omega) (by omega) (by omega), fun k => ?_⟩
  by_cases hkq : k = q
  · subst hkq
    rw [← h.at_]
    exact Blk.merge H hS h.two.1 h.two.2 (by omega) hm hp
  · by_cases hk : k < q
    · exact h.old hp hk
    · have hle : (q + 1) * (2 * bs) ≤ k * (2 * bs) := Nat.mul_le_mul_right _ (by omega)
      rw [Nat.add_mul, Nat.one_mul, ← h.at_] at hle
      exact Blk.out (by omega)

theorem Merging.idle {l L : List α} {bs a q : Nat} (h : Merging d lt S l bs a q L) (hm : l.length ≤ a + bs) (hb : 0 < bs) : ∀ k, Blk d lt l (2 * bs) L (k * (2 * bs)) := fun k => by
  by_cases hkq : k = q
  · subst hkq
    rw [← h.at_]
    exact h.two.1.wide hm
  · by_cases hk : k < q
    · exact h.done k hk
    · have hle : (q + 1) * (2 * bs) ≤ k * (2 * bs) := Nat.mul_le_mul_right _ (by omega)
      rw [Nat.add_mul, Nat.one_mul, ← h.at_] at hle
      exact Blk.out (by omega)


end

end
end Go.Proofs.Ytcegkgbceogflaa
