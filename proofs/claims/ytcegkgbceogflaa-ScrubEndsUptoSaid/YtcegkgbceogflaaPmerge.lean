/-
  Stable sorting, in plain Lean: merges, rotations, insertion. Whatever the elements and their order.
-/
import Derived.Test.YtcegkgbceogflaaSxh
set_option linter.unusedVariables false
set_option linter.unusedSectionVars false
namespace Go.Proofs.Ytcegkgbceogflaa
open Go Sx

section
variable {α : Type} (d : α) (lt : α → α → Bool)

/-- What stands from place s on: n elements. -/
def seg (L : List α) (s n : Nat) : List α := (List.range n).map fun i => L.getD (s + i) d

theorem seg_len (L : List α) (s n : Nat) : (seg d L s n).length = n := by simp [seg]
theorem seg_zero (L : List α) (s : Nat) : seg d L s 0 = [] := rfl
theorem seg_congr {L L' : List α} {s s' n : Nat} (h : ∀ i, i < n → L.getD (s + i) d = L'.getD (s' + i) d) : seg d L s n = seg d L' s' n := by
  unfold seg
  apply List.map_congr_left
  intro i hi
  exact h i (List.mem_range.1 hi)
theorem seg_add (L : List α) (s n k : Nat) : seg d L s (n + k) = seg d L s n ++ seg d L (s + n) k := by
  unfold seg
  rw [List.range_add, List.map_append, List.map_map]
  congr 1
  apply List.map_congr_left
  intro i _
  simp [Nat.add_assoc]
theorem seg_one (L : List α) (s : Nat) : seg d L s 1 = [L.getD s d] := by simp [seg, List.range_succ]
theorem mem_seg {L : List α} {s n : Nat} {x : α} : x ∈ seg d L s n ↔ ∃ i, i < n ∧ x = L.getD (s + i) d := by
  unfold seg
  simp only [List.mem_map, List.mem_range]
  constructor
  · rintro ⟨i, h1, h2⟩; exact ⟨i, h1, h2.symm⟩
  · rintro ⟨i, h1, h2⟩; exact ⟨i, h1, h2.symm⟩
theorem seg_all (L : List α) : seg d L 0 L.length = L := by
  apply List.ext_getElem
  · simp [seg]
  · intro i h1 h2
    simp [seg, List.getD, h2]
theorem seg_at (L : List α) (s n i : Nat) (h : i < n) : (seg d L s n).getD i d = L.getD (s + i) d := by
  simp [seg, List.getD, h]

/-- Two rising lists made one; of two that are as great, the one of the first list comes first. -/
def mergeL : List α → List α → List α
  | [], Y => Y
  | x :: X, [] => x :: X
  | x :: X, y :: Y => if lt y x then y :: mergeL (x :: X) Y else x :: mergeL X (y :: Y)
termination_by X Y => X.length + Y.length

theorem mergeL_nil (X : List α) : mergeL lt X [] = X := by cases X <;> simp [mergeL]
theorem nil_mergeL (Y : List α) : mergeL lt [] Y = Y := by simp [mergeL]
theorem mergeL_cons (x y : α) (X Y : List α) : mergeL lt (x :: X) (y :: Y) = if lt y x then y :: mergeL lt (x :: X) Y else x :: mergeL lt X (y :: Y) := by rw [mergeL]

theorem mem_mergeL {z : α} : ∀ (X Y : List α), z ∈ mergeL lt X Y → z ∈ X ∨ z ∈ Y
  | [], Y, h => .inr (by simpa [mergeL] using h)
  | x :: X, [], h => .inl (by simpa [mergeL] using h)
  | x :: X, y :: Y, h => by
    rw [mergeL_cons] at h
    split at h
    · rcases List.mem_cons.1 h with rfl | h
      · exact .inr (by simp)
      · rcases mem_mergeL (x :: X) Y h with h | h
        · exact .inl h
        · exact .inr (by simp [h])
    · rcases List.mem_cons.1 h with rfl | h
      · exact .inl (by simp)
      · rcases mem_mergeL X (y :: Y) h with h | h
        · exact .inl (by simp [h])
        · exact .inr h
termination_by X Y => X.length + Y.length

theorem mergeL_split : ∀ (X1 Y1 : List α) (X2 Y2 : List α), (∀ y ∈ Y1, ∀ x ∈ X2, lt y x = true) → (∀ x ∈ X1, ∀ y ∈ Y2, lt y x = false) →
    mergeL lt (X1 ++ X2) (Y1 ++ Y2) = mergeL lt X1 Y1 ++ mergeL lt X2 Y2
  | [], [], X2, Y2, _, _ => by simp [mergeL]
  | [], y :: Y1, X2, Y2, h1, h2 => by
    cases X2 with
    | nil => simp [mergeL]
    | cons x X2 =>
      rw [List.nil_append, List.cons_append, mergeL_cons, if_pos (h1 y (by simp) x (by simp))]
      have := mergeL_split [] Y1 (x :: X2) Y2 (fun a ha b hb => h1 a (by simp [ha]) b hb) (fun a ha => by cases ha)
      rw [List.nil_append, nil_mergeL] at this
      rw [this, nil_mergeL]
      rfl
  | x :: X1, [], X2, Y2, h1, h2 => by
    cases Y2 with
    | nil => simp [mergeL_nil]
    | cons y Y2 =>
      rw [List.nil_append, List.cons_append, mergeL_cons, if_neg (by rw [h2 x (by simp) y (by simp)]; simp)]
      have := mergeL_split X1 [] X2 (y :: Y2) (fun a ha => by cases ha) (fun a ha b hb => h2 a (by simp [ha]) b hb)
      rw [List.nil_append, mergeL_nil] at this
      rw [this, mergeL_nil]
      rfl
  | x :: X1, y :: Y1, X2, Y2, h1, h2 => by
    rw [List.cons_append, List.cons_append, mergeL_cons, mergeL_cons]
    split
    · have := mergeL_split (x :: X1) Y1 X2 Y2 (fun a ha b hb => h1 a (by simp [ha]) b hb) h2
      rw [List.cons_append] at this
      rw [this]
      rfl
    · have := mergeL_split X1 (y :: Y1) X2 Y2 h1 (fun a ha b hb => h2 a (by simp [ha]) b hb)
      rw [List.cons_append] at this
      rw [this]
      rfl
termination_by X1 Y1 => X1.length + Y1.length

/-- An order: 'not less' is handed on, of two the one is not less. -/
structure Order (S : α → Prop) : Prop where
  tr : ∀ x y z, S x → S y → S z → lt y x = false → lt z y = false → lt z x = false
  as : ∀ x y, S x → S y → lt x y = true → lt y x = false

theorem Order.ltr {S : α → Prop} (H : Order lt S) {x y z : α} (hx : S x) (hy : S y) (hz : S z) (h1 : lt x y = true) (h2 : lt y z = true) : lt x z = true := by
  cases h : lt x z with
  | true => rfl
  | false =>
    have h3 := H.as y z hy hz h2
    have := H.tr y z x hy hz hx h3 h
    rw [h1] at this
    cases this

/-- An element put where it belongs: behind all that are not greater. -/
def insR (y : α) : List α → List α
  | [] => [y]
  | z :: L => if lt y z then y :: z :: L else z :: insR y L

theorem insR_mergeL {S : α → Prop} (H : Order lt S) {y : α} (hy : S y) : ∀ (A B : List α), (∀ a ∈ A, S a) → (∀ b ∈ B, S b) → mergeL lt A (insR lt y B) = insR lt y (mergeL lt A B)
  | [], B, _, _ => by rw [nil_mergeL, nil_mergeL]
  | a :: A, [], hA, hB => by
    rw [mergeL_nil, insR, mergeL_cons, insR]
    split
    · rw [mergeL_nil]
    · have := insR_mergeL H hy A [] (fun x hx => hA x (by simp [hx])) hB
      rw [insR, mergeL_nil] at this
      rw [this]
  | a :: A, b :: B, hA, hB => by
    have sa := hA a (by simp)
    have sb := hB b (by simp)
    rw [insR]
    by_cases h1 : lt y b = true
    · rw [if_pos h1, mergeL_cons, mergeL_cons]
      by_cases h2 : lt b a = true
      · have h3 := Order.ltr lt H hy sb sa h1 h2
        rw [if_pos h3, if_pos h2, insR, if_pos h1]
      · rw [if_neg h2, insR]
        by_cases h3 : lt y a = true
        · rw [if_pos h3, if_pos h3]
        · rw [if_neg h3, if_neg h3]
          have := insR_mergeL H hy A (b :: B) (fun x hx => hA x (by simp [hx])) hB
          rw [insR, if_pos h1] at this
          rw [this]
    · rw [if_neg h1, mergeL_cons, mergeL_cons]
      by_cases h2 : lt b a = true
      · rw [if_pos h2, if_pos h2, insR, if_neg h1]
        rw [insR_mergeL H hy (a :: A) B hA (fun x hx => hB x (by simp [hx]))]
      · have h3 : lt y a = false := H.tr a b y sa sb hy (by simpa using h2) (by simpa using h1)
        rw [if_neg h2, if_neg h2, insR, if_neg (by rw [h3]; simp)]
        have := insR_mergeL H hy A (b :: B) (fun x hx => hA x (by simp [hx])) hB
        rw [insR, if_neg h1] at this
        rw [this]
termination_by A B => A.length + B.length

/-- The insertion sort. -/
def isort (l : List α) : List α := l.foldl (fun acc y => insR lt y acc) []

theorem isort_nil : isort lt ([] : List α) = [] := rfl
theorem isort_snoc (l : List α) (y : α) : isort lt (l ++ [y]) = insR lt y (isort lt l) := by simp [isort]

theorem mem_insR {y z : α} : ∀ {L : List α}, z ∈ insR lt y L ↔ z = y ∨ z ∈ L
  | [] => by simp [insR]
  | x :: L => by
    rw [insR]
    split
    · simp
    · simp only [List.mem_cons, mem_insR (L := L)]
      constructor
      · rintro (h | h | h)
        · exact .inr (.inl h)
        · exact .inl h
        · exact .inr (.inr h)
      · rintro (h | h | h)
        · exact .inr (.inl h)
        · exact .inl h
        · exact .inr (.inr h)

theorem insR_len (y : α) : ∀ L : List α, (insR lt y L).length = L.length + 1
  | [] => rfl
  | x :: L => by
    rw [insR]
    split
    · rfl
    · simp [insR_len y L]

theorem mem_isort (z : α) (l : List α) : z ∈ isort lt l ↔ z ∈ l := by
  have : ∀ n (l : List α), l.length = n → (z ∈ isort lt l ↔ z ∈ l) := by
    intro n
    induction n with
    | zero => intro l hl; rw [List.length_eq_zero_iff.1 hl]; simp [isort]
    | succ n ih =>
      intro l hl
      have hne : l ≠ [] := fun h => by rw [h] at hl; cases hl
      rw [← List.dropLast_concat_getLast hne, isort_snoc, mem_insR, ih _ (by simp [hl])]
      simp [or_comm]
  exact this _ l rfl

theorem isort_len (l : List α) : (isort lt l).length = l.length := by
  have : ∀ n (l : List α), l.length = n → (isort lt l).length = n := by
    intro n
    induction n with
    | zero => intro l hl; rw [List.length_eq_zero_iff.1 hl]; rfl
    | succ n ih =>
      intro l hl
      have hne : l ≠ [] := fun h => by rw [h] at hl; cases hl
      rw [← List.dropLast_concat_getLast hne, isort_snoc, insR_len, ih _ (by simp [hl])]
  exact this _ l rfl

theorem isort_append {S : α → Prop} (H : Order lt S) (X : List α) (hX : ∀ x ∈ X, S x) : ∀ (n : Nat) (Y : List α), Y.length = n → (∀ y ∈ Y, S y) → isort lt (X ++ Y) = mergeL lt (isort lt X) (isort lt Y)
  | 0, Y, hn, _ => by rw [List.length_eq_zero_iff.1 hn, List.append_nil, isort_nil, mergeL_nil]
  | n + 1, Y, hn, hY => by
    have hne : Y ≠ [] := fun h => by rw [h] at hn; cases hn
    have hlast : Y.getLast hne ∈ Y := List.getLast_mem hne
    rw [← List.dropLast_concat_getLast hne, ← List.append_assoc, isort_snoc, isort_snoc,
      isort_append H X hX n Y.dropLast (by simp [hn]) (fun y hy => hY y (List.dropLast_subset Y hy)), insR_mergeL lt H (hY _ hlast)]
    · intro a ha; exact hX a ((mem_isort lt a X).1 ha)
    · intro b hb; exact hY b (List.dropLast_subset Y ((mem_isort lt b _).1 hb))

/-- From place s on n elements do not fall. -/
def Rises (L : List α) : Prop := ∀ i j, i < j → j < L.length → lt (L.getD j d) (L.getD i d) = false

theorem rises_cons {x : α} {L : List α} (h : ∀ z ∈ L, lt z x = false) (hL : Rises d lt L) : Rises d lt (x :: L) := by
  intro i j hij hj
  cases j with
  | zero => omega
  | succ j =>
    have hjl : j < L.length := by simpa using hj
    cases i with
    | zero =>
      have : L.getD j d ∈ L := by
        rw [List.getD, List.getElem?_eq_getElem hjl]
        exact List.getElem_mem hjl
      simpa using h _ this
    | succ i => simpa using hL i j (by omega) hjl

theorem Rises.tail {x : α} {L : List α} (h : Rises d lt (x :: L)) : Rises d lt L := fun i j hij hj => by
  have := h (i + 1) (j + 1) (by omega) (by simp; omega)
  simpa using this
theorem Rises.head {x : α} {L : List α} (h : Rises d lt (x :: L)) : ∀ z ∈ L, lt z x = false := fun z hz => by
  obtain ⟨i, hi, rfl⟩ := List.getElem_of_mem hz
  have := h 0 (i + 1) (by omega) (by simp; omega)
  simpa [List.getD, hi] using this

theorem insR_rises {S : α → Prop} (H : Order lt S) {y : α} (hy : S y) : ∀ (L : List α), (∀ a ∈ L, S a) → Rises d lt L → Rises d lt (insR lt y L)
  | [], _, _ => fun i j hij hj => by simp [insR] at hj; omega
  | x :: L, hS, hL => by
    have hx := hS x (by simp)
    rw [insR]
    split
    · rename_i h
      refine rises_cons d lt (fun z hz => ?_) hL
      have hyx := H.as y x hy hx h
      rcases List.mem_cons.1 hz with rfl | hz
      · exact hyx
      · exact H.tr y x z hy hx (hS z (by simp [hz])) hyx (hL.head d lt z hz)
    · rename_i h
      refine rises_cons d lt (fun z hz => ?_) (insR_rises H hy L (fun a ha => hS a (by simp [ha])) (hL.tail d lt))
      rcases (mem_insR lt).1 hz with rfl | hz
      · simpa using h
      · exact hL.head d lt z hz

theorem isort_rises {S : α → Prop} (H : Order lt S) (l : List α) (hS : ∀ a ∈ l, S a) : Rises d lt (isort lt l) := by
  have : ∀ n (l : List α), l.length = n → (∀ a ∈ l, S a) → Rises d lt (isort lt l) := by
    intro n
    induction n with
    | zero => intro l hl _; rw [List.length_eq_zero_iff.1 hl]; intro i j hij hj; simp [isort] at hj
    | succ n ih =>
      intro l hl hS
      have hne : l ≠ [] := fun h => by rw [h] at hl; cases hl
      rw [← List.dropLast_concat_getLast hne, isort_snoc]
      refine insR_rises d lt H (hS _ (List.getLast_mem hne)) _ (fun a ha => ?_) (ih _ (by simp [hl]) (fun a ha => hS a (List.dropLast_subset l ha)))
      exact hS a (List.dropLast_subset l ((mem_isort lt a _).1 ha))
  exact this _ l rfl hS

end
end Go.Proofs.Ytcegkgbceogflaa
