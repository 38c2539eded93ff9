/-
  CHAPTER 24: plain facts on the models: the runs that bytes lie in.
-/
import Derived.Test.YtfdojammchbboaaDoorP24zb
set_option linter.unusedVariables false
set_option linter.unusedSimpArgs false
set_option maxRecDepth 100000
namespace Go.Proofs.YtfdojammchbboaaDoor
open Go Go.RowKit Sx

abbrev Ext := S_stripe_Extent
abbrev RExt := S_tholeref24_Extent
def rx (e : Ext) : RExt := S_tholeref24_Extent.mk e.Object e.At e.N

/-- A run is joined to the last one where it goes on from it, else it stands by itself. -/
def joins (acc : List Ext) (o a : Int) : Bool :=
  match acc.getLast? with
  | none => false
  | some e => e.Object == o && e.At + e.N == a
def addE (acc : List Ext) (o a c : Int) : List Ext :=
  match acc.getLast? with
  | none => acc ++ [S_stripe_Extent.mk o a c]
  | some e => bif e.Object == o && e.At + e.N == a then acc.dropLast ++ [S_stripe_Extent.mk e.Object e.At (e.N + c)] else acc ++ [S_stripe_Extent.mk o a c]

theorem addE_add (acc : List Ext) (o a c d : Int) : addE (addE acc o a c) o (a + c) d = addE acc o a (c + d) := by
  rcases List.eq_nil_or_concat acc with rfl | ⟨l, e, rfl⟩
  · simp [addE]
  · simp only [addE, List.concat_eq_append, List.getLast?_append, List.getLast?_singleton, Option.or_some, List.dropLast_concat, Option.some_or]
    cases h : (e.Object == o && e.At + e.N == a) with
    | true =>
      simp only [Bool.and_eq_true, beq_iff_eq] at h
      simp only [cond_true, List.getLast?_append, List.getLast?_singleton, Option.some_or, h.1, beq_self_eq_true, Bool.true_and, List.dropLast_concat]
      rw [show (e.At + (e.N + c) == a + c) = true by simp; omega]
      simp only [cond_true, Int.add_assoc]
    | false =>
      simp only [cond_false, List.getLast?_append, List.getLast?_singleton, Option.some_or, beq_self_eq_true, Bool.true_and, cond_true, List.dropLast_concat]

/-- Byte by byte. -/
def bytesE (l : Lay) : Nat → List Ext → Int → List Ext
  | 0, acc, p => acc
  | n + 1, acc, p => bytesE l n (addE acc (plc l p).1 (plc l p).2 1) (p + 1)

theorem bytesE_add (l : Lay) : ∀ (n m : Nat) (acc : List Ext) (p : Int), bytesE l (n + m) acc p = bytesE l m (bytesE l n acc p) (p + n)
  | 0, m, acc, p => by simp [bytesE]
  | n + 1, m, acc, p => by
    rw [show n + 1 + m = (n + m) + 1 by omega, bytesE, bytesE_add l n m, bytesE]
    congr 1
    push_cast; omega

/-- Inside one stripe unit the bytes lie one behind the other. -/
theorem plc_in {l : Lay} (h : Gd l) {p : Int} (i : Int) (h0 : 0 ≤ p) (hi : 0 ≤ i) (hu : p % l.Unit + i < l.Unit) : plc l (p + i) = ((plc l p).1, (plc l p).2 + i) := by
  have u := h.1
  have e := Int.mul_ediv_add_emod p l.Unit
  have m := Int.emod_nonneg p (show l.Unit ≠ 0 by omega)
  have e2 : p + i = (p % l.Unit + i) + l.Unit * (p / l.Unit) := by omega
  have d : (p + i) / l.Unit = p / l.Unit := by
    rw [e2, Int.add_mul_ediv_left _ _ (by omega), Int.ediv_eq_zero_of_lt (by omega) hu, Int.zero_add]
  have r : (p + i) % l.Unit = p % l.Unit + i := by
    rw [e2, Int.add_mul_emod_self_left, Int.emod_eq_of_lt (by omega) hu]
  unfold plc
  rw [d, r]
  simp only [Prod.mk.injEq, true_and]
  omega

theorem bytesE_chunk {l : Lay} (h : Gd l) : ∀ (n : Nat) (acc : List Ext) (p : Int), 0 ≤ p → p % l.Unit + (n + 1) ≤ l.Unit → bytesE l (n + 1) acc p = addE acc (plc l p).1 (plc l p).2 (n + 1)
  | 0, acc, p, h0, hu => by simp [bytesE]
  | n + 1, acc, p, h0, hu => by
    rw [show n + 1 + 1 = (n + 1) + 1 from rfl, bytesE_add l (n + 1) 1, bytesE_chunk h n acc p h0 (by push_cast at hu ⊢; omega)]
    have := plc_in h ((n : Int) + 1) h0 (by omega) (by push_cast at hu; omega)
    simp only [bytesE]
    rw [show ((n + 1 : Nat) : Int) = (n : Int) + 1 by push_cast; rfl, this, addE_add]

end Go.Proofs.YtfdojammchbboaaDoor
