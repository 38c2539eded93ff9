/-
  CHAPTER 24: plain facts on the models: where a byte lies, and back.
-/
import Derived.Test.YtfdojammchbboaaDoorM24s
set_option linter.unusedVariables false
set_option linter.unusedSimpArgs false
set_option maxRecDepth 100000
namespace Go.Proofs.YtfdojammchbboaaDoor
open Go Go.RowKit Sx

abbrev Lay := S_stripe_Layout
abbrev RLay := S_tholeref24_Layout
abbrev rl (l : Lay) : RLay := S_tholeref24_Layout.mk l.Unit l.Count l.Size

theorem lives24 : m_tholelaw24_lives 64 = some true := by kernel_rfl

def Gd (l : Lay) : Prop := 1 ≤ l.Unit ∧ l.Unit ≤ 4096 ∧ 1 ≤ l.Count ∧ l.Count ≤ 16 ∧ l.Unit ≤ l.Size ∧ l.Size ≤ 4096 ∧ l.Size % l.Unit = 0
instance (l : Lay) : Decidable (Gd l) := by unfold Gd; infer_instance

theorem m_good (F : Nat) (l : Lay) : m_stripe_Good F l = some (decide (Gd l)) := by
  simp only [m_stripe_Good]
  have no (h : ¬ Gd l) : some false = some (decide (Gd l)) := by rw [decide_eq_false h]
  by_cases h1 : l.Unit ≥ 1
  · by_cases h2 : l.Unit ≤ 4096
    · by_cases h3 : l.Count ≥ 1
      · by_cases h4 : l.Count ≤ 16
        · by_cases h5 : l.Size ≥ l.Unit
          · by_cases h6 : l.Size ≤ 4096
            · rw [decide_eq_true h1, decide_eq_true h2, decide_eq_true h3, decide_eq_true h4, decide_eq_true h5, decide_eq_true h6]
              simp only [cond_true]
              rw [grd_pos _ (by omega), Int.tmod_eq_emod_of_nonneg (by omega)]
              by_cases h7 : l.Size % l.Unit = 0
              · rw [decide_eq_true (show Gd l from ⟨h1, h2, h3, h4, h5, h6, h7⟩), h7]; rfl
              · rw [decide_eq_false (show ¬ Gd l from fun h => h7 h.2.2.2.2.2.2), beq_eq_false_iff_ne.2 h7]
            · rw [decide_eq_true h1, decide_eq_true h2, decide_eq_true h3, decide_eq_true h4, decide_eq_true h5, decide_eq_false h6]
              exact no (fun h => h6 h.2.2.2.2.2.1)
          · rw [decide_eq_true h1, decide_eq_true h2, decide_eq_true h3, decide_eq_true h4, decide_eq_false h5]
            exact no (fun h => h5 h.2.2.2.2.1)
        · rw [decide_eq_true h1, decide_eq_true h2, decide_eq_true h3, decide_eq_false h4]
          exact no (fun h => h4 h.2.2.2.1)
      · rw [decide_eq_true h1, decide_eq_true h2, decide_eq_false h3]
        exact no (fun h => h3 h.2.2.1)
    · rw [decide_eq_true h1, decide_eq_false h2]
      exact no (fun h => h2 h.2.1)
  · rw [decide_eq_false h1]
    exact no (fun h => h1 h.1)
theorem m_rgood (F : Nat) (l : Lay) : m_tholeref24_Good F (rl l) = some (decide (Gd l)) := m_good F l

/-! ### Bounds -/
theorem mul_bd {a b A B : Int} (h0 : 0 ≤ a) (h1 : a ≤ A) (h2 : 0 ≤ b) (h3 : b ≤ B) : 0 ≤ a * b ∧ a * b ≤ A * B :=
  ⟨Int.mul_nonneg h0 h2, Int.mul_le_mul h1 h3 h2 (by omega)⟩
theorem div_bd {a b A : Int} (h0 : 0 ≤ a) (h1 : a ≤ A) (h2 : 1 ≤ b) : 0 ≤ a / b ∧ a / b ≤ A :=
  ⟨Int.ediv_nonneg h0 (by omega), Int.le_trans (Int.ediv_le_self b h0) h1⟩
theorem mod_bd {a b : Int} (h2 : 1 ≤ b) : 0 ≤ a % b ∧ a % b ≤ b - 1 :=
  ⟨Int.emod_nonneg a (by omega), by have := Int.emod_lt_of_pos a (show 0 < b by omega); omega⟩
theorem set_bd {l : Lay} (h : Gd l) : (1 ≤ l.Size / l.Unit ∧ l.Size / l.Unit ≤ 4096) ∧ 1 ≤ l.Count * (l.Size / l.Unit) ∧ l.Count * (l.Size / l.Unit) ≤ 65536 := by
  obtain ⟨h1, h2, h3, h4, h5, h6, h7⟩ := h
  have q := div_bd (show (0:Int) ≤ l.Size by omega) h6 h1
  have q1 : 1 ≤ l.Size / l.Unit := Int.le_ediv_of_mul_le (by omega) (by omega)
  have m := mul_bd (show (0:Int) ≤ l.Count by omega) h4 q.1 q.2
  have m1 : 1 * 1 ≤ l.Count * (l.Size / l.Unit) := Int.mul_le_mul h3 q1 (by omega) (by omega)
  exact ⟨⟨q1, q.2⟩, by omega, by omega⟩
theorem m_set (F : Nat) {l : Lay} (h : Gd l) : m__stripe_Layout__set F l = some (l.Count * (l.Size / l.Unit)) := by
  have b := set_bd h
  obtain ⟨h1, h2, h3, h4, h5, h6, h7⟩ := h
  unfold m__stripe_Layout__set
  rw [Int.tdiv_eq_ediv_of_nonneg (show (0:Int) ≤ l.Size by omega)]
  rw [grd_pos _ (by omega), grd_pos _ (by unfold I64; omega), grd_pos _ (by unfold I64; omega)]

def plc (l : Lay) (a : Int) : Int × Int :=
  ((a / l.Unit) / (l.Count * (l.Size / l.Unit)) * l.Count + (a / l.Unit) % l.Count, ((a / l.Unit) % (l.Count * (l.Size / l.Unit))) / l.Count * l.Unit + a % l.Unit)
def Out (l : Lay) (a : Int) : Bool := !decide (Gd l) || decide (a < 0) || decide (a ≥ 65536)

theorem m_place (F : Nat) (l : Lay) (a : Int) : m_stripe_Place F l a = some (bif Out l a then (0, 0) else plc l a) := by
  simp only [m_stripe_Place, jn, Out]
  rw [m_good, Option.bind_some]
  by_cases g : Gd l
  · rw [decide_eq_true g]
    by_cases h0 : a < 0
    · simp [h0]
    · by_cases h1 : a ≥ 65536
      · simp [h0, h1]
      · simp only [h0, h1, decide_false, Bool.not_true, cond_false, Bool.or_false]
        have b := set_bd g
        rw [m_set F g]
        simp only [Option.bind_some]
        have g' := g
        obtain ⟨h1, h2, h3, h4, h5, h6, h7⟩ := g'
        rw [Int.tdiv_eq_ediv_of_nonneg (show (0:Int) ≤ a by omega), Int.tmod_eq_emod_of_nonneg (show (0:Int) ≤ a by omega)]
        have u := div_bd (show (0:Int) ≤ a by omega) (show a ≤ 65535 by omega) h1
        rw [Int.tdiv_eq_ediv_of_nonneg u.1, Int.tmod_eq_emod_of_nonneg u.1]
        have v := div_bd u.1 u.2 b.2.1
        have w := mod_bd (a := a / l.Unit) b.2.1
        rw [Int.tdiv_eq_ediv_of_nonneg w.1, Int.tmod_eq_emod_of_nonneg w.1]
        have x := div_bd w.1 w.2 h3
        have y := mod_bd (a := (a / l.Unit) % (l.Count * (l.Size / l.Unit))) h3
        have z := mod_bd (a := a) h1
        have p := mul_bd v.1 v.2 (show 0 ≤ l.Count by omega) h4
        have q := mul_bd x.1 (show _ ≤ (65535 : Int) by omega) (show 0 ≤ l.Unit by omega) h2
        rw [Int.emod_emod_of_dvd _ (Int.dvd_mul_right l.Count (l.Size / l.Unit))] at y ⊢
        rw [grd_pos _ (by omega), grd_pos _ (by unfold I64; omega), grd_pos _ (by omega), grd_pos _ (by omega), grd_pos _ (by unfold I64; omega), grd_pos _ (by unfold I64; omega), grd_pos _ (by omega),
          grd_pos _ (by unfold I64; omega), grd_pos _ (by unfold I64; omega), grd_pos _ (by unfold I64; omega), grd_pos _ (by unfold I64; omega)]
        rfl
  · rw [decide_eq_false g]; simp
theorem m_rplace (F : Nat) (l : Lay) (a : Int) : m_tholeref24_Place F (rl l) a = some (bif Out l a then (0, 0) else plc l a) := by
  simp only [m_tholeref24_Place, jn, Out]
  rw [m_rgood, Option.bind_some]
  by_cases g : Gd l
  · rw [decide_eq_true g]
    by_cases h0 : a < 0
    · simp [h0]
    · by_cases h1 : a ≥ 65536
      · simp [h0, h1]
      · simp only [h0, h1, decide_false, Bool.not_true, cond_false, Bool.or_false]
        have b := set_bd g
        have g' := g
        obtain ⟨h1, h2, h3, h4, h5, h6, h7⟩ := g'
        rw [Int.tdiv_eq_ediv_of_nonneg (show (0:Int) ≤ a by omega), Int.tmod_eq_emod_of_nonneg (show (0:Int) ≤ a by omega), Int.tdiv_eq_ediv_of_nonneg (show (0:Int) ≤ l.Size by omega)]
        have u := div_bd (show (0:Int) ≤ a by omega) (show a ≤ 65535 by omega) h1
        rw [Int.tdiv_eq_ediv_of_nonneg u.1, Int.tmod_eq_emod_of_nonneg u.1, Int.tmod_eq_emod_of_nonneg u.1]
        have v := div_bd u.1 u.2 b.2.1
        have w := mod_bd (a := a / l.Unit) b.2.1
        rw [Int.tdiv_eq_ediv_of_nonneg w.1]
        have x := div_bd w.1 w.2 h3
        have y := mod_bd (a := a / l.Unit) h3
        have z := mod_bd (a := a) h1
        have p := mul_bd v.1 v.2 (show 0 ≤ l.Count by omega) h4
        have q := mul_bd x.1 (show _ ≤ (65535 : Int) by omega) (show 0 ≤ l.Unit by omega) h2
        rw [grd_pos _ (by omega), grd_pos _ (by unfold I64; omega), grd_pos _ (by unfold I64; omega), grd_pos _ (by unfold I64; omega), grd_pos _ (by omega), grd_pos _ (by omega),
          grd_pos _ (by unfold I64; omega), grd_pos _ (by unfold I64; omega), grd_pos _ (by unfold I64; omega), grd_pos _ (by unfold I64; omega), grd_pos _ (by unfold I64; omega), grd_pos _ (by unfold I64; omega)]
        rfl
  · rw [decide_eq_false g]; simp

end Go.Proofs.YtfdojammchbboaaDoor
