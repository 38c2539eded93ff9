/-
  CHAPTER 24: plain facts: the sums are the ends, and both are the sizes.
-/
import Derived.Test.YtfdojammchbboaaDoorP24zh
set_option linter.unusedVariables false
set_option linter.unusedSimpArgs false
set_option maxRecDepth 100000
namespace Go.Proofs.YtfdojammchbboaaDoor
open Go Go.RowKit Sx

abbrev Lay.u (l : Lay) : Nat := l.Unit.toNat
abbrev Lay.c (l : Lay) : Nat := l.Count.toNat
abbrev Lay.q (l : Lay) : Nat := l.Size.toNat / l.Unit.toNat

theorem plc_nat {l : Lay} (g : Gd l) (n : Nat) : plc l n = (((obN (Lay.u l) (Lay.c l) (Lay.q l) n : Nat) : Int), ((atN (Lay.u l) (Lay.c l) (Lay.q l) n : Nat) : Int)) := by
  obtain ⟨u1, u2, c1, c2, s1, s2, s3⟩ := g
  have hu : l.Unit = ((Lay.u l : Nat) : Int) := by simp only [Lay.u]; omega
  have hc : l.Count = ((Lay.c l : Nat) : Int) := by simp only [Lay.c]; omega
  have hs : l.Size = ((l.Size.toNat : Nat) : Int) := by omega
  unfold plc obN atN Lay.q
  rw [show l.Unit.toNat = Lay.u l from rfl, hu, hc, hs]
  simp only [Int.toNat_natCast]
  refine Prod.ext ?_ ?_
  · show ((n : Int) / ((Lay.u l : Nat) : Int)) / (((Lay.c l : Nat) : Int) * ((l.Size.toNat : Int) / ((Lay.u l : Nat) : Int))) * ((Lay.c l : Nat) : Int) + ((n : Int) / ((Lay.u l : Nat) : Int)) % ((Lay.c l : Nat) : Int) = _
    rw [← Int.natCast_ediv, ← Int.natCast_ediv, ← Int.natCast_mul, ← Int.natCast_ediv, ← Int.natCast_mul, ← Int.natCast_emod, ← Int.natCast_add, Nat.div_div_eq_div_mul (n / Lay.u l)]
  · show ((n : Int) / ((Lay.u l : Nat) : Int)) % (((Lay.c l : Nat) : Int) * ((l.Size.toNat : Int) / ((Lay.u l : Nat) : Int))) / ((Lay.c l : Nat) : Int) * ((Lay.u l : Nat) : Int) + (n : Int) % ((Lay.u l : Nat) : Int) = _
    rw [← Int.natCast_ediv, ← Int.natCast_ediv, ← Int.natCast_mul, ← Int.natCast_emod, ← Int.natCast_ediv, ← Int.natCast_mul, ← Int.natCast_emod, ← Int.natCast_add, Nat.mod_mul_right_div_self]

theorem ok_bytes {l : Lay} (g : Gd l) : ∀ (n : Nat) (acc : List Ext) (p : Int), 0 ≤ p → p + n ≤ 65536 → OkE acc p → OkE (bytesE l n acc p) (p + n)
  | 0, acc, p, h0, h1, h => by simpa [bytesE] using h
  | n + 1, acc, p, h0, h1, h => by
    have := ok_bytes g n _ (p + 1) (by omega) (by push_cast at h1; omega) (h.add (o := (plc l p).1) (plc_bd g h0 (by push_cast at h1; omega)) (show (1:Int) ≤ 1 by omega) h0)
    rw [bytesE]
    rw [show p + ((n + 1 : Nat) : Int) = p + 1 + n by push_cast; omega]
    exact this

theorem sizes_eq {l : Lay} (g : Gd l) : ∀ n : Nat, n ≤ 65536 → sizeMax (bytesE l n [] 0) = sizeSum (bytesE l n [] 0) ∧ ∀ o, (sizeSum (bytesE l n [] 0)).getD o 0 = ((szo (Lay.u l) (Lay.c l) (Lay.q l) o n : Nat) : Int)
  | 0, _ => ⟨rfl, fun o => by rw [szo_zero]; rfl⟩
  | n + 1, hn => by
    obtain ⟨h1, h2⟩ := sizes_eq g n (by omega)
    have ok := ok_bytes g n [] 0 (by omega) (by omega) ⟨by simp, fun e he => by simp at he⟩
    have gu := g.1
    have gc := g.2.2.1
    have b := set_bd g
    have q1 : 1 ≤ Lay.q l := by
      have hs := g.2.2.2.2.1
      exact (Nat.one_le_div_iff (by omega)).2 (by omega)
    have e : bytesE l (n + 1) [] 0 = addE (bytesE l n [] 0) (plc l n).1 (plc l n).2 1 := by
      rw [bytesE_add l n 1]; simp [bytesE]
    rw [e, plc_nat g n]
    simp only
    have ha := h2 (obN (Lay.u l) (Lay.c l) (Lay.q l) n)
    rw [szo_at (by simp only [Lay.c]; omega)] at ha
    rw [sum_add, max_add _ _ _ (by rw [h1, Int.toNat_natCast]; exact ha) (fun e he => (ok.2 e he).2.1), h1, Int.toNat_natCast]
    refine ⟨rfl, fun o => ?_⟩
    rw [sstep_get, h2 o, szo_succ (by simp only [Lay.u]; omega) (by simp only [Lay.c]; omega) q1]
    split <;> push_cast <;> rfl

end Go.Proofs.YtfdojammchbboaaDoor
