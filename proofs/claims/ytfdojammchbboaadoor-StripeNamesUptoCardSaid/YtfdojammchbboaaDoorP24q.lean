/-
  CHAPTER 24: plain facts on the models: the law StripeNames.
-/
import Derived.Test.YtfdojammchbboaaDoorP24p
set_option linter.unusedVariables false
set_option linter.unusedSimpArgs false
set_option maxRecDepth 100000
namespace Go.Proofs.YtfdojammchbboaaDoor
open Go Go.RowKit Sx

theorem lives24n (n : Nat) (hn : n + 1000 ≤ 8000000000000000000) : m_tholelaw24_lives (n + 1000) = some true := by
  unfold m_tholelaw24_lives
  rw [m_parse _ _ (by show 4 < _; omega) (by show 4 ≤ _; omega), m_name _ _ _ ⟨by omega, by omega⟩ (by show 1 ≤ _; omega) (by decide)]
  refine Eq.symm ?_
  refine Eq.symm ?_
  kernel_rfl

theorem law_names (a : ByteArray) (k : Int) (b : ByteArray) (ha : a.size ≤ 1048576) (hb : b.size ≤ 1048576) (hk : -9223372036854775808 ≤ k ∧ k ≤ 9223372036854775807) : m_tholelaw24_StripeNames (1999000 + 1000) a k b = some true := by
  unfold m_tholelaw24_StripeNames
  rw [m_parse _ b (by omega) (by omega), m_name _ a k ⟨by omega, by omega⟩ (by omega) hk.2]
  have hp : ∃ p, m_tholeref24_Parse (1999000 + 1000) b = some p := by
    rw [m_refparse _ b (by omega)]
    split
    · exact ⟨_, rfl⟩
    · split <;> exact ⟨_, rfl⟩
  obtain ⟨p, hp⟩ := hp
  have hn : ∃ s, m_tholeref24_Name (1999000 + 1000) a k = some s := by
    unfold m_tholeref24_Name
    by_cases h0 : k < 0
    · rw [decide_eq_true h0]; exact ⟨_, rfl⟩
    · obtain ⟨u, rfl⟩ : ∃ u : Nat, k = (u : Int) := ⟨k.toNat, (Int.toNat_of_nonneg (by omega)).symm⟩
      rw [decide_eq_false h0, cond_false]
      unfold m_tholeref08_Text m_tholeref08_text m_tholeref08_digits
      rw [decide_eq_false h0, cond_false, wrap_u64 (by omega) (by omega), m_digits _ u _ (Nat.lt_of_lt_of_le (show u < 10 ^ 20 by omega) (Nat.pow_le_pow_right (by decide) (by omega))) (by omega) (by show 0 + _ ≤ _; omega) (by omega)]
      have hl : (Lib.decDigits u).length ≤ 20 := by
        rw [Lib.decDigits_length]
        have h20 : ∀ (j v : Nat), v < 10 ^ (j + 1) → Lib.nDigits v ≤ j + 1 := by
          intro j
          induction j with
          | zero => intro v hv; rw [Lib.nDigits_small (by omega)]; omega
          | succ j ih =>
            intro v hv
            by_cases hv9 : v < 10
            · rw [Lib.nDigits_small hv9]; omega
            · rw [Lib.nDigits_big hv9]
              have := ih (v / 10) (by rw [Nat.pow_succ] at hv; omega)
              omega
        exact h20 19 u (by omega)
      rw [grd_pos _ (by unfold Len; show a.size + 1 ≤ _; omega), Option.bind_some, Option.bind_some, Option.bind_some]
      rw [grd_pos _ (by unfold Len; rw [ByteArray.size_append, ByteArray.size_append]; show a.size + 1 + ((Lib.decDigits u).length + 0) ≤ _; omega)]
      exact ⟨_, rfl⟩
  obtain ⟨s, hs⟩ := hn
  rw [hp, Option.bind_some, hs, Option.bind_some, Option.bind_some, Option.bind_some, str_tl_self, cond_true, str_tl_self, cond_true, beq_self_eq_true, cond_true, beq_self_eq_true, cond_true, lives24n 1999000 (by omega), Option.bind_some]

end Go.Proofs.YtfdojammchbboaaDoor
