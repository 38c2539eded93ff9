/-
  CHAPTER 24: plain facts on the models: the code's runs are the bytes' runs.
-/
import Derived.Test.YtfdojammchbboaaDoorP24zd
set_option linter.unusedVariables false
set_option linter.unusedSimpArgs false
set_option maxRecDepth 100000
namespace Go.Proofs.YtfdojammchbboaaDoor
open Go Go.RowKit Sx

def mnE (l : Lay) (e p : Int) : Int := if e - p < l.Unit - p % l.Unit then e - p else l.Unit - p % l.Unit

theorem mnE_bd {l : Lay} (g : Gd l) {e p : Int} (h : p < e) : 1 ≤ mnE l e p ∧ mnE l e p ≤ e - p ∧ mnE l e p ≤ 4096 ∧ p % l.Unit + mnE l e p ≤ l.Unit := by
  have u := g.1
  have u2 := g.2.1
  have m := mod_bd (a := p) u
  unfold mnE
  split <;> omega

theorem loop_ext {l : Lay} (g : Gd l) (e : Int) (he : e ≤ 65536) (st : (Int × List Ext → Option (List Ext)) → Int × List Ext → Option (List Ext))
    (hs : ∀ nx p acc, 0 ≤ p → p < e → OkE acc p → st nx (p, acc) = nx (p + mnE l e p, addE acc (plc l p).1 (plc l p).2 (mnE l e p)))
    (hf : ∀ nx p acc, ¬ p < e → st nx (p, acc) = some acc) :
    ∀ (F : Nat) (p : Int) (acc : List Ext), 0 ≤ p → p ≤ e → (e - p).toNat < F → OkE acc p → loopW st F (p, acc) = some (bytesE l (e - p).toNat acc p)
  | 0, p, acc, h0, h1, h2, h3 => by omega
  | F + 1, p, acc, h0, h1, h2, h3 => by
    rw [loopW]
    by_cases h : p < e
    · rw [hs _ p acc h0 h h3]
      have b := mnE_bd g h
      have pb := plc_bd g h0 (by omega)
      rw [loop_ext g e he st hs hf F (p + mnE l e p) _ (by omega) (by omega) (by omega) (h3.add pb b.1 h0)]
      obtain ⟨k, hk⟩ : ∃ k : Nat, mnE l e p = (k : Int) + 1 := ⟨(mnE l e p - 1).toNat, by omega⟩
      rw [show (e - p).toNat = (k + 1) + (e - (p + mnE l e p)).toNat by omega, bytesE_add l (k + 1), bytesE_chunk g k acc p h0 (by omega), hk]
      rfl
    · rw [hf _ p acc h, show (e - p).toNat = 0 by omega]
      rfl

def EOut (l : Lay) (o n : Int) : Bool := !decide (Gd l) || (decide (o < 0) || (decide (n < 0) || (decide (o > 65536) || decide (n > 65536 - o))))
def exts (l : Lay) (o n : Int) : List Ext := bif EOut l o n then [] else bytesE l n.toNat [] o

theorem m_exts (F : Nat) (hF : 65536 < F) (l : Lay) (o n : Int) : m_stripe_Extents F l o n = some (exts l o n) := by
  unfold m_stripe_Extents exts EOut
  rw [jn]
  rw [m_good, Option.bind_some]
  by_cases g : Gd l
  · rw [decide_eq_true g]
    simp only [Bool.not_true, cond_false, Bool.false_or]
    by_cases h0 : o < 0
    · simp [h0]
    · by_cases h1 : n < 0
      · simp [h0, h1]
      · by_cases h2 : o > 65536
        · simp [h0, h1, h2]
        · simp only [h0, h1, h2, decide_false, cond_false, Bool.false_or]
          rw [grd_pos _ (by unfold I64; omega)]
          by_cases h3 : n > 65536 - o
          · rw [decide_eq_true h3]; rfl
          · rw [decide_eq_false h3, cond_false, cond_false, grd_pos _ (by unfold I64; omega)]
            refine (loop_ext g (o + n) (by omega) _ (fun nx p acc p0 p1 hok => ?_) (fun nx p acc hp => ?_) F o [] (by omega) (by omega) (by omega) ⟨by simp; omega, fun e he => by simp at he⟩).trans (by rw [show o + n - o = n by omega])
            · have b := mnE_bd g p1
              have pb := plc_bd g p0 (by omega)
              have g1 := g.1
              have g2 := g.2.1
              have m := mod_bd (a := p) g1
              show (bif decide (p < o + n) then _ else _) = _
              rw [decide_eq_true p1, cond_true, m_place, Option.bind_some]
              rw [show Out l p = false by unfold Out; rw [decide_eq_true g, decide_eq_false (show ¬ p < 0 by omega), decide_eq_false (show ¬ p ≥ 65536 by omega)]; rfl, cond_false]
              rw [Int.tmod_eq_emod_of_nonneg p0]
              rw [grd_pos _ (by omega), grd_pos _ (by unfold I64; omega), grd_pos _ (by unfold I64; omega)]
              refine (step_ext (l := l) acc p (plc l p).1 (plc l p).2 (mnE l (o + n) p) hok (by omega) (by omega) pb (fun acc' => grd (I64 (p + mnE l (o + n) p)) (nx (p + mnE l (o + n) p, acc')))).trans ?_
              rw [grd_pos _ (by unfold I64; omega)]
            · show (bif decide (p < o + n) then _ else _) = _
              rw [decide_eq_false hp, cond_false]
  · rw [decide_eq_false g]; rfl

end Go.Proofs.YtfdojammchbboaaDoor
