/-
  CHAPTER 7: the logarithm rises.
-/
import Derived.Test.YtmdmfjgpjpfoaaaP07b
set_option linter.unusedVariables false
set_option maxRecDepth 100000
namespace Go.Proofs.Ytmdmfjgpjpfoaaa
open Go Sx

theorem lnLoop_ge : ∀ k out y, out ≤ lnLoop k out y
  | 0, out, y => Nat.le_refl _
  | k + 1, out, y => by
    simp only [lnLoop]
    split
    · exact Nat.le_trans (Nat.le_add_right _ _) (lnLoop_ge k _ _)
    · exact lnLoop_ge k _ _

theorem lnLoop_add : ∀ k c out y, lnLoop k (out + c) y = lnLoop k out y + c
  | 0, c, out, y => rfl
  | k + 1, c, out, y => by
    simp only [lnLoop]
    split
    · rw [show out + c + 2 ^ k = out + 2 ^ k + c by omega]; exact lnLoop_add k c _ _
    · exact lnLoop_add k c _ _

/-- So far apart two numbers must be for k digits to tell them. -/
def apartD : Nat → Nat
  | 0 => 2147483648
  | k + 1 => apartD k * 5 / 7 + 4

theorem sq_grow (y d s : Nat) (hs : s ≤ y + (y + d)) : y * y + d * s ≤ (y + d) * (y + d) := by
  have h1 : (y + d) * (y + d) = y * y + d * (y + (y + d)) := by
    simp only [Nat.add_mul, Nat.mul_add]
    have := Nat.mul_comm y d
    omega
  have h2 : d * s ≤ d * (y + (y + d)) := Nat.mul_le_mul_left d hs
  omega

theorem root2 (y : Nat) (h : 9223372036854775808 ≤ y * y) : 3037000500 ≤ y := by
  apply Nat.le_of_not_lt
  intro hc
  have : y * y ≤ 3037000499 * 3037000499 := Nat.mul_le_mul (by omega) (by omega)
  omega

theorem lnLoop_lt : ∀ (k out y d : Nat), 2147483648 ≤ y → y + d < 4294967296 → apartD k ≤ d → lnLoop k out y < lnLoop k out (y + d)
  | 0, out, y, d, h1, h2, h3 => by
    simp only [apartD] at h3
    omega
  | k + 1, out, y, d, h1, h2, h3 => by
    simp only [apartD] at h3
    obtain ⟨D, hD⟩ : ∃ D, D = apartD k := ⟨_, rfl⟩
    rw [← hD] at h3
    have g1 := sq_grow y d 4294967296 (by omega)
    have g2 : (y + d) * (y + d) ≤ 4294967295 * 4294967295 := Nat.mul_le_mul (by omega) (by omega)
    have g3 : 2147483648 * 2147483648 ≤ y * y := Nat.mul_le_mul h1 h1
    have g4 := root2 y
    have g5 := fun h => sq_grow y d 6074001000 h
    obtain ⟨Y, hY⟩ : ∃ Y, Y = y * y := ⟨_, rfl⟩
    obtain ⟨Z, hZ⟩ : ∃ Z, Z = (y + d) * (y + d) := ⟨_, rfl⟩
    simp only [lnLoop]
    rw [← hY, ← hZ] at g1 ⊢; rw [← hZ] at g2; rw [← hY] at g3 g4; rw [← hY, ← hZ] at g5
    by_cases a : 4294967296 ≤ Y / 2147483648
    · have g6 := g5 (by have := g4 (by omega); omega)
      rw [if_pos a, if_pos (by omega)]
      have := lnLoop_lt k (out + 2 ^ k) (Y / 2147483648 / 2) (Z / 2147483648 / 2 - Y / 2147483648 / 2) (by omega) (by omega) (by omega)
      rwa [show Y / 2147483648 / 2 + (Z / 2147483648 / 2 - Y / 2147483648 / 2) = Z / 2147483648 / 2 by omega] at this
    · rw [if_neg a]
      by_cases b : 4294967296 ≤ Z / 2147483648
      · rw [if_pos b]
        have i1 := lnLoop_le k out (Y / 2147483648)
        have i2 := lnLoop_ge k (out + 2 ^ k) (Z / 2147483648 / 2)
        have i3 := Nat.two_pow_pos k
        omega
      · rw [if_neg b]
        have := lnLoop_lt k out (Y / 2147483648) (Z / 2147483648 - Y / 2147483648) (by omega) (by omega) (by omega)
        rwa [show Y / 2147483648 + (Z / 2147483648 - Y / 2147483648) = Z / 2147483648 by omega] at this

theorem clampU_nat (k : Nat) (h : k ≤ 65535) : clampU (k : Int) = k := by
  unfold clampU
  rw [if_neg (by omega), if_neg (by omega)]
  rfl

theorem lnF_rise (k : Nat) (h : k < 65535) : lnF (k : Int) < lnF ((k + 1 : Nat) : Int) := by
  unfold lnF
  rw [clampU_nat k (by omega), clampU_nat (k + 1) (by omega)]
  obtain ⟨x, hx⟩ : ∃ x, x = k + 1 := ⟨_, rfl⟩
  rw [← hx]
  have hx1 : 1 ≤ x := by omega
  have e1 := (Nat.log2_self_le (n := x) (by omega))
  have e2 := (Nat.lt_log2_self (n := x))
  obtain ⟨e, he⟩ : ∃ e, e = Nat.log2 x := ⟨_, rfl⟩
  rw [← he] at e1 e2 ⊢
  have he15 : e ≤ 15 := by
    apply Nat.le_of_not_lt
    intro hc
    have : 2 ^ 16 ≤ 2 ^ e := Nat.pow_le_pow_right (by decide) hc
    have e16 : 2 ^ 16 = 65536 := by decide
    omega
  have hp : 2 ^ (e + 1) = 2 * 2 ^ e := by rw [Nat.pow_succ]; omega
  obtain ⟨m, hm⟩ : ∃ m, m = 2 ^ (31 - e) := ⟨_, rfl⟩
  have hpm : 2 ^ e * m = 2147483648 := by rw [hm, ← Nat.pow_add, show e + (31 - e) = 31 by omega]
  have hm16 : 65536 ≤ m := by
    have : 2 ^ 16 ≤ 2 ^ (31 - e) := Nat.pow_le_pow_right (by decide) (by omega)
    have e16 : 2 ^ 16 = 65536 := by decide
    omega
  have hlo : 2147483648 ≤ x * m := by rw [← hpm]; exact Nat.mul_le_mul_right m e1
  rcases Nat.lt_or_ge (x + 1) (2 ^ (e + 1)) with hlt | hge
  · have hl : Nat.log2 (x + 1) = e := (Nat.log2_eq_iff (by omega)).2 ⟨by omega, hlt⟩
    rw [hl, ← hm]
    have hup : (x + 1) * m + m ≤ 4294967296 := by
      have : (x + 2) * m ≤ 2 ^ (e + 1) * m := Nat.mul_le_mul_right m hlt
      have h2 : 2 ^ (e + 1) * m = 4294967296 := by rw [hp, Nat.mul_assoc, hpm]
      have h3 : (x + 2) * m = (x + 1) * m + m := by rw [show x + 2 = (x + 1) + 1 by omega, Nat.add_mul (x + 1) 1 m, Nat.one_mul]
      omega
    have hs : (x + 1) * m = x * m + m := by rw [Nat.add_mul, Nat.one_mul]
    rw [hs] at hup ⊢
    refine lnLoop_lt 44 _ _ m hlo (by omega) ?_
    exact Nat.le_trans (by decide : apartD 44 ≤ 65536) hm16
  · have hx2 : x + 1 = 2 ^ (e + 1) := by omega
    have hl : Nat.log2 (x + 1) = e + 1 := by rw [hx2, Nat.log2_two_pow]
    rw [hl]
    have i1 := lnLoop_le 44 (e * 17592186044416) (x * 2 ^ (31 - e))
    have i2 := lnLoop_ge 44 ((e + 1) * 17592186044416) ((x + 1) * 2 ^ (31 - (e + 1)))
    have e44 : 2 ^ 44 = 17592186044416 := by decide
    omega

theorem lnF_mono : ∀ (d k : Nat), k + d ≤ 65535 → lnF (k : Int) ≤ lnF ((k + d : Nat) : Int)
  | 0, k, _ => Nat.le_refl _
  | d + 1, k, h => Nat.le_trans (lnF_mono d k (by omega)) (Nat.le_of_lt (by have := lnF_rise (k + d) (by omega); exact this))

theorem lnF_top (u : Int) : lnF u ≤ 281474976710656 := by
  have h1 := clampU_le u
  have h2 : lnF u = lnF ((clampU u : Nat) : Int) := by
    unfold lnF
    rw [clampU_nat _ h1]
  have h3 := lnF_mono (65535 - clampU u) (clampU u) (by omega)
  rw [show clampU u + (65535 - clampU u) = 65535 by omega] at h3
  have h4 : lnF ((65535 : Nat) : Int) = 281474976710656 := by decide +kernel
  omega

theorem lnF_twice (k : Nat) (h : k < 32767) : lnF ((2 * k + 1 : Nat) : Int) = lnF (k : Int) + 17592186044416 := by
  unfold lnF
  rw [clampU_nat k (by omega), clampU_nat (2 * k + 1) (by omega)]
  have h1 : Nat.log2 (2 * k + 1 + 1) = Nat.log2 (k + 1) + 1 := by
    rw [show 2 * k + 1 + 1 = 2 * (k + 1) by omega, Nat.log2_two_mul (by omega)]
  have he : Nat.log2 (k + 1) < 31 := by
    have := log2_le16 (k + 1) (by omega); omega
  rw [h1]
  have h2 : (2 * k + 1 + 1) * 2 ^ (31 - (Nat.log2 (k + 1) + 1)) = (k + 1) * 2 ^ (31 - Nat.log2 (k + 1)) := by
    rw [show 31 - Nat.log2 (k + 1) = (31 - (Nat.log2 (k + 1) + 1)) + 1 by omega, Nat.pow_succ, ← Nat.mul_assoc, show 2 * k + 1 + 1 = 2 * (k + 1) by omega, Nat.mul_comm 2, Nat.mul_assoc, Nat.mul_assoc, Nat.mul_comm 2]
  rw [h2, show (Nat.log2 (k + 1) + 1) * 17592186044416 = Nat.log2 (k + 1) * 17592186044416 + 17592186044416 by omega, lnLoop_add]

end Go.Proofs.Ytmdmfjgpjpfoaaa
