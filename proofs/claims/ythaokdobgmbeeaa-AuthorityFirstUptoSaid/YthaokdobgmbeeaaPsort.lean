/-
  The insertion sort of slices.SortStableFunc, in plain Lean: whatever the comparison.
-/
import Derived.Test.YthaokdobgmbeeaaSxh
set_option linter.unusedVariables false
namespace Go.Proofs.Ythaokdobgmbeeaa
open Go Sx

theorem getD_setI (l : List Int) (i j : Nat) (v : Int) : (l.set i v).getD j 0 = if i = j ∧ j < l.length then v else l.getD j 0 := by
  simp only [List.getD, List.getElem?_set]
  by_cases hij : i = j
  · subst hij
    by_cases hl : i < l.length
    · simp [hl]
    · simp [hl]
  · simp [hij]

/-- The number at place j goes down to where it belongs, not below place a. -/
def bub (c : Int → Int → Int) (a : Nat) : Nat → List Int → List Int
  | 0, l => l
  | j + 1, l => if a < j + 1 ∧ c (l.getD (j + 1) 0) (l.getD j 0) < 0 then bub c a j ((l.set (j + 1) (l.getD j 0)).set j (l.getD (j + 1) 0)) else l

/-- From place a on, k more numbers are put where they belong. -/
def insS (c : Int → Int → Int) (a : Nat) : Nat → List Int → List Int
  | 0, l => l
  | k + 1, l => bub c a (a + 1 + k) (insS c a k l)

theorem bub_stop {c : Int → Int → Int} {a j : Nat} {l : List Int} (h : ¬ a < j) : bub c a j l = l := by
  cases j with
  | zero => rfl
  | succ j => rw [bub, if_neg (fun hc => h hc.1)]
theorem bub_end {c : Int → Int → Int} {a j : Nat} {l : List Int} (h : ¬ c (l.getD j 0) (l.getD (j - 1) 0) < 0) : bub c a j l = l := by
  cases j with
  | zero => rfl
  | succ j => rw [bub, if_neg (fun hc => h hc.2)]
theorem bub_go {c : Int → Int → Int} {a j : Nat} {l : List Int} (h : a < j) (h2 : c (l.getD j 0) (l.getD (j - 1) 0) < 0) : bub c a j l = bub c a (j - 1) ((l.set j (l.getD (j - 1) 0)).set (j - 1) (l.getD j 0)) := by
  cases j with
  | zero => omega
  | succ j => rw [bub, if_pos ⟨h, h2⟩]; rfl

theorem insS_step {c : Int → Int → Int} {a i : Nat} {l : List Int} (h : a + 1 ≤ i) : insS c a (i + 1 - (a + 1)) l = bub c a i (insS c a (i - (a + 1)) l) := by
  rw [show i + 1 - (a + 1) = (i - (a + 1)) + 1 by omega, insS, show a + 1 + (i - (a + 1)) = i by omega]

/-- All numbers lie from 0 on below m. -/
def Within (m : Nat) (l : List Int) : Prop := ∀ j, j < l.length → 0 ≤ l.getD j 0 ∧ l.getD j 0 < (m : Int)

theorem Within.swap {m : Nat} {l : List Int} (h : Within m l) {i j : Nat} (hi : i < l.length) (hj : j < l.length) : Within m ((l.set i (l.getD j 0)).set j (l.getD i 0)) := by
  intro k hk
  simp only [List.length_set] at hk
  rw [getD_setI, getD_setI]
  split
  · exact h i hi
  · split
    · exact h j hj
    · exact h k hk

theorem bub_len {c : Int → Int → Int} {a : Nat} : ∀ (j : Nat) (l : List Int), (bub c a j l).length = l.length
  | 0, l => rfl
  | j + 1, l => by
    rw [bub]
    split
    · rw [bub_len j]; simp
    · rfl
theorem bub_within {c : Int → Int → Int} {a m : Nat} : ∀ (j : Nat) (l : List Int), j < l.length → Within m l → Within m (bub c a j l)
  | 0, l, _, h => h
  | j + 1, l, hj, h => by
    rw [bub]
    split
    · exact bub_within j _ (by simp; omega) (h.swap (by omega) (by omega))
    · exact h
theorem insS_len {c : Int → Int → Int} {a : Nat} : ∀ (k : Nat) (l : List Int), (insS c a k l).length = l.length
  | 0, l => rfl
  | k + 1, l => by rw [insS, bub_len, insS_len k]
theorem insS_within {c : Int → Int → Int} {a m : Nat} : ∀ (k : Nat) (l : List Int), a + 1 + k ≤ l.length ∨ k = 0 → Within m l → Within m (insS c a k l)
  | 0, l, _, h => h
  | k + 1, l, hk, h => by
    rw [insS]
    refine bub_within _ _ (by rw [insS_len]; omega) (insS_within k l (by omega) h)

/-- The numbers from 0 on. -/
def upTo : Nat → List Int
  | 0 => []
  | n + 1 => upTo n ++ [(n : Int)]
theorem upTo_len : ∀ n, (upTo n).length = n
  | 0 => rfl
  | n + 1 => by simp [upTo, upTo_len n]
theorem upTo_at : ∀ n j, j < n → (upTo n).getD j 0 = (j : Int)
  | 0, j, h => by omega
  | n + 1, j, h => by
    rw [upTo, List.getD]
    by_cases hj : j < n
    · rw [List.getElem?_append_left (by rw [upTo_len]; exact hj)]
      exact upTo_at n j hj
    · have : j = n := by omega
      subst this
      rw [List.getElem?_append_right (by rw [upTo_len]; exact Nat.le_refl _), upTo_len]
      simp
theorem upTo_within (n : Nat) : Within n (upTo n) := by
  intro j hj
  rw [upTo_len] at hj
  rw [upTo_at n j hj]
  omega

theorem ext_getD {l l' : List Int} (h : l.length = l'.length) (h2 : ∀ j, j < l.length → l.getD j 0 = l'.getD j 0) : l = l' := by
  apply List.ext_getElem h
  intro i h3 h4
  have := h2 i h3
  simpa [List.getD, h3, h4] using this
theorem all_succ {p : Nat → Prop} {i : Nat} (h : ∀ j, j < i → p j) (hi : p i) : ∀ j, j < i + 1 → p j := fun j hj =>
  if hji : j = i then hji ▸ hi else h j (by omega)

end Go.Proofs.Ythaokdobgmbeeaa
