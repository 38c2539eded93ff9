/-
  CHAPTER 24: plain facts on the models: the way back, and the law of the places.
-/
import Derived.Test.YtfdojammchbboaaDoorP24za
set_option linter.unusedVariables false
set_option linter.unusedSimpArgs false
set_option maxRecDepth 100000
namespace Go.Proofs.YtfdojammchbboaaDoor
open Go Go.RowKit Sx

def bas (l : Lay) (o a : Int) : Int := o / l.Count * (l.Count * (l.Size / l.Unit)) + a / l.Unit * l.Count + o % l.Count
def bck (l : Lay) (o a : Int) : Int := bas l o a * l.Unit + a % l.Unit
def BOut (l : Lay) (o a : Int) : Bool := decide (a < 0) || decide (a ≥ l.Size) || decide (o < 0) || decide (bck l o a ≥ 65536)

theorem bas_bd {l : Lay} (h : Gd l) {o a : Int} (h0 : 0 ≤ o) (h1 : o ≤ 1048576) (h2 : 0 ≤ a) (h3 : a ≤ l.Size) :
    (0 ≤ o / l.Count ∧ o / l.Count ≤ 1048576) ∧ (0 ≤ o / l.Count * (l.Count * (l.Size / l.Unit)) ∧ o / l.Count * (l.Count * (l.Size / l.Unit)) ≤ 68719476736)
    ∧ (0 ≤ a / l.Unit ∧ a / l.Unit ≤ 4096) ∧ (0 ≤ a / l.Unit * l.Count ∧ a / l.Unit * l.Count ≤ 65536) ∧ (0 ≤ o % l.Count ∧ o % l.Count ≤ 16)
    ∧ (o ≤ bas l o a ∧ bas l o a ≤ 68719607808) ∧ (bas l o a ≤ bas l o a * l.Unit ∧ bas l o a * l.Unit ≤ 281475513991168) ∧ (0 ≤ a % l.Unit ∧ a % l.Unit ≤ 4096) := by
  have b := set_bd h
  obtain ⟨u1, u2, c1, c2, s1, s2, _⟩ := h
  have d := div_bd h0 h1 c1
  have e := mul_bd d.1 d.2 (show 0 ≤ l.Count * (l.Size / l.Unit) by omega) b.2.2
  have f := div_bd h2 (show a ≤ 4096 by omega) u1
  have g := mul_bd f.1 f.2 (show 0 ≤ l.Count by omega) c2
  have m := mod_bd (a := o) c1
  have n := mod_bd (a := a) u1
  have k : o / l.Count * l.Count ≤ o / l.Count * (l.Count * (l.Size / l.Unit)) := by
    refine Int.mul_le_mul_of_nonneg_left ?_ d.1
    have := Int.mul_le_mul_of_nonneg_left b.1.1 (show 0 ≤ l.Count by omega)
    omega
  have k2 := Int.mul_ediv_add_emod o l.Count
  have k3 : l.Count * (o / l.Count) = o / l.Count * l.Count := Int.mul_comm _ _
  have lo : o ≤ bas l o a := by unfold bas; omega
  have hi : bas l o a ≤ 68719607808 := by unfold bas; omega
  have p := mul_bd (show 0 ≤ bas l o a by omega) hi (show 0 ≤ l.Unit by omega) u2
  have q := Int.mul_le_mul_of_nonneg_left u1 (show 0 ≤ bas l o a by omega)
  refine ⟨d, ⟨e.1, by omega⟩, f, ⟨g.1, by omega⟩, ⟨m.1, by omega⟩, ⟨lo, hi⟩, ⟨by omega, by omega⟩, ⟨n.1, by omega⟩⟩

theorem m_back (F : Nat) (l : Lay) (o a : Int) : m_stripe_Back F l o a = some (bif !decide (Gd l) then 0 else bif BOut l o a then -1 else bck l o a) := by
  simp only [m_stripe_Back, jn]
  rw [m_good, Option.bind_some]
  by_cases g : Gd l
  · rw [decide_eq_true g]
    simp only [Bool.not_true, cond_false, BOut]
    by_cases h0 : a < 0
    · simp [h0]
    · by_cases h1 : a ≥ l.Size
      · simp [h0, h1]
      · by_cases h2 : o < 0
        · simp [h0, h1, h2]
        · simp only [h0, h1, h2, decide_false, cond_false, Bool.false_or]
          have g' := g
          obtain ⟨u1, u2, c1, c2, s1, s2, s3⟩ := g'
          rw [grd_pos _ (by unfold I64; omega)]
          by_cases h3 : o ≥ 65536 * l.Count
          · rw [decide_eq_true h3, cond_true]
            have := bas_bd g (o := 65536) (a := a) (by omega) (by omega) (by omega) (by omega)
            have k : 65536 ≤ bck l o a := by
              have k1 : (0 : Int) ≤ o / l.Count * (l.Count * (l.Size / l.Unit)) := Int.mul_nonneg (Int.ediv_nonneg (by omega) (by omega)) (by have := set_bd g; omega)
              have k2 : 65536 ≤ o / l.Count := Int.le_ediv_of_mul_le (by omega) (by omega)
              have k3 : o / l.Count * 1 ≤ o / l.Count * (l.Count * (l.Size / l.Unit)) := Int.mul_le_mul_of_nonneg_left (by have := set_bd g; omega) (by omega)
              have k4 := mod_bd (a := o) c1
              have k5 : 65536 ≤ bas l o a := by unfold bas; omega
              have k6 := Int.mul_le_mul_of_nonneg_left u1 (show 0 ≤ bas l o a by omega)
              unfold bck; omega
            rw [decide_eq_true (show bck l o a ≥ 65536 from k)]; rfl
          · rw [decide_eq_false h3, cond_false]
            have b := bas_bd g (o := o) (a := a) (by omega) (by omega) (by omega) (by omega)
            rw [m_set F g]
            simp only [Option.bind_some]
            rw [Int.tdiv_eq_ediv_of_nonneg (show (0:Int) ≤ a by omega), Int.tmod_eq_emod_of_nonneg (show (0:Int) ≤ a by omega), Int.tdiv_eq_ediv_of_nonneg (show (0:Int) ≤ o by omega), Int.tmod_eq_emod_of_nonneg (show (0:Int) ≤ o by omega)]
            rw [grd_pos _ (by omega), grd_pos _ (by unfold I64; omega), grd_pos _ (by unfold I64; omega), grd_pos _ (by omega), grd_pos _ (by unfold I64; omega), grd_pos _ (by unfold I64; omega), grd_pos _ (by unfold I64; omega), grd_pos _ (by unfold I64; omega)]
            change (bif decide (bas l o a ≥ 65536) then some (-1) else grd (I64 (bas l o a * l.Unit)) (grd (I64 (bck l o a)) (bif decide (bck l o a < 65536) then some (bck l o a) else some (-1)))) = _
            by_cases h4 : bas l o a ≥ 65536
            · rw [decide_eq_true h4, decide_eq_true (show bck l o a ≥ 65536 by unfold bck; omega)]; rfl
            · rw [decide_eq_false h4, cond_false, grd_pos _ (by unfold I64; omega), grd_pos _ (by unfold I64 bck; omega)]
              by_cases h5 : bck l o a < 65536
              · rw [decide_eq_true h5, decide_eq_false (show ¬ bck l o a ≥ 65536 by omega)]; rfl
              · rw [decide_eq_false h5, decide_eq_true (show bck l o a ≥ 65536 by omega)]; rfl
  · rw [decide_eq_false g]; rfl

end Go.Proofs.YtfdojammchbboaaDoor
