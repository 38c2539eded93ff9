/-
  CHAPTER 24: plain arithmetic: how many of the first bytes lie in an object.
-/
import Derived.Test.YtfdojammchbboaaDoorP24zg
set_option linter.unusedVariables false
set_option linter.unusedSimpArgs false
set_option maxRecDepth 100000
namespace Go.Proofs.YtfdojammchbboaaDoor
open Go Go.RowKit Sx

theorem succ_dig (a n : Nat) (h : 1 ≤ n) : (a % n + 1 < n ∧ (a + 1) % n = a % n + 1 ∧ (a + 1) / n = a / n) ∨ (a % n + 1 = n ∧ (a + 1) % n = 0 ∧ (a + 1) / n = a / n + 1) := by
  have e := Nat.div_add_mod a n
  have m := Nat.mod_lt a (show n > 0 by omega)
  by_cases hc : a % n + 1 < n
  · refine .inl ⟨hc, ?_, ?_⟩
    · rw [show a + 1 = (a % n + 1) + n * (a / n) by omega, Nat.add_mul_mod_self_left, Nat.mod_eq_of_lt hc]
    · rw [show a + 1 = (a % n + 1) + n * (a / n) by omega, Nat.add_mul_div_left _ _ (by omega), Nat.div_eq_of_lt hc, Nat.zero_add]
  · have hn : a % n + 1 = n := by omega
    have e2 : a + 1 = n * (a / n + 1) := by rw [Nat.mul_add]; omega
    refine .inr ⟨hn, ?_, ?_⟩
    · rw [e2, Nat.mul_mod_right]
    · rw [e2, Nat.mul_div_cancel_left _ (by omega)]

/-- Of object o: whole where its set lies before, nothing where behind, else by its place in the row. -/
def szf (U q : Nat) (s' j' s k j b : Nat) : Nat :=
  if s' < s then q * U else if s < s' then 0 else if j' < j then (k + 1) * U else if j' = j then k * U + b else k * U
def szo (U C q o p : Nat) : Nat := szf U q (o / C) (o % C) (p / U / C / q) (p / U / C % q) (p / U % C) (p % U)
def obN (U C q p : Nat) : Nat := p / U / C / q * C + p / U % C
def atN (U C q p : Nat) : Nat := p / U / C % q * U + p % U

theorem ob_iff {C s j o : Nat} (hC : 1 ≤ C) (hj : j < C) : o = s * C + j ↔ o / C = s ∧ o % C = j := by
  constructor
  · rintro rfl
    rw [Nat.add_comm, Nat.add_mul_div_right _ _ (by omega), Nat.add_mul_mod_self_right, Nat.div_eq_of_lt hj, Nat.mod_eq_of_lt hj]
    simp
  · rintro ⟨rfl, rfl⟩
    rw [Nat.mul_comm]; exact (Nat.div_add_mod o C).symm

theorem szo_zero (U C q o : Nat) : szo U C q o 0 = 0 := by
  unfold szo szf
  simp
theorem szo_at {U C q p : Nat} (hC : 1 ≤ C) : szo U C q (obN U C q p) p = atN U C q p := by
  have hj := Nat.mod_lt (p / U) (show C > 0 by omega)
  obtain ⟨h1, h2⟩ := (ob_iff (s := p / U / C / q) hC hj).1 (rfl : obN U C q p = _)
  unfold szo szf atN
  rw [h1, h2]
  simp
theorem szo_succ {U C q : Nat} (hU : 1 ≤ U) (hC : 1 ≤ C) (hq : 1 ≤ q) (o p : Nat) : szo U C q o (p + 1) = szo U C q o p + if o = obN U C q p then 1 else 0 := by
  have hj := Nat.mod_lt (p / U) (show C > 0 by omega)
  have hi := ob_iff (s := p / U / C / q) (o := o) hC hj
  have ho := Nat.mod_lt o (show C > 0 by omega)
  unfold obN
  simp only [hi]
  unfold szo
  generalize o / C = s' at *
  generalize o % C = j' at *
  clear hi
  rcases succ_dig p U hU with ⟨a1, a2, a3⟩ | ⟨a1, a2, a3⟩
  · rw [a2, a3]
    unfold szf
    repeat' split
    all_goals omega
  · rw [a2, a3]
    rcases succ_dig (p / U) C hC with ⟨b1, b2, b3⟩ | ⟨b1, b2, b3⟩
    · rw [b2, b3]
      unfold szf
      simp only [Nat.add_mul, Nat.one_mul]
      repeat' split
      all_goals omega
    · rw [b2, b3]
      rcases succ_dig (p / U / C) q hq with ⟨c1, c2, c3⟩ | ⟨c1, c2, c3⟩
      · rw [c2, c3]
        unfold szf
        simp only [Nat.add_mul, Nat.one_mul]
        repeat' split
        all_goals omega
      · rw [c2, c3]
        unfold szf
        have hk : q * U = (p / U / C % q) * U + U := by rw [← c1, Nat.add_mul, Nat.one_mul]; rw [c1]
        simp only [Nat.add_mul, Nat.one_mul, Nat.zero_mul, hk]
        repeat' split
        all_goals omega

end Go.Proofs.YtfdojammchbboaaDoor
