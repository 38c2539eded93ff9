/-
  CHAPTER 24, StripeBack: plain facts: a byte's place leads back to it; the runs add up.
-/
import Derived.Test.YtfdojammchbboaaDoorP24zr
set_option linter.unusedVariables false
set_option linter.unusedSimpArgs false
set_option maxRecDepth 100000
namespace Go.Proofs.YtfdojammchbboaaDoor
open Go Go.RowKit Sx

theorem div_dig {X C r : Int} (h0 : 0 ≤ r) (h1 : r < C) : (X * C + r) / C = X := by
  rw [Int.add_comm, Int.add_mul_ediv_right r X (by omega), Int.ediv_eq_zero_of_lt h0 h1, Int.zero_add]
theorem mod_dig {X C r : Int} (h0 : 0 ≤ r) (h1 : r < C) : (X * C + r) % C = r := by
  have := Int.mul_ediv_add_emod (X * C + r) C
  rw [div_dig h0 h1, Int.mul_comm C X] at this
  omega

theorem bck_plc {l : Lay} (g : Gd l) (k : Int) : bck l (plc l k).1 (plc l k).2 = k := by
  have u1 := g.1
  have c1 := g.2.2.1
  have m1 := Int.emod_nonneg (k / l.Unit) (show l.Count ≠ 0 by omega)
  have m2 := Int.emod_lt_of_pos (k / l.Unit) (show 0 < l.Count by omega)
  have m3 := Int.emod_nonneg k (show l.Unit ≠ 0 by omega)
  have m4 := Int.emod_lt_of_pos k (show 0 < l.Unit by omega)
  unfold bck bas plc
  dsimp only
  rw [div_dig m1 m2, mod_dig m1 m2, div_dig m3 m4, mod_dig m3 m4]
  have e1 : k / l.Unit % (l.Count * (l.Size / l.Unit)) % l.Count = k / l.Unit % l.Count := Int.emod_emod_of_dvd _ (Int.dvd_mul_right ..)
  have e2 := Int.mul_ediv_add_emod (k / l.Unit % (l.Count * (l.Size / l.Unit))) l.Count
  rw [e1, Int.mul_comm l.Count] at e2
  have e3 := Int.mul_ediv_add_emod (k / l.Unit) (l.Count * (l.Size / l.Unit))
  rw [Int.mul_comm (l.Count * (l.Size / l.Unit))] at e3
  have e4 := Int.mul_ediv_add_emod k l.Unit
  rw [Int.mul_comm l.Unit] at e4
  rw [Int.add_assoc, e2, e3, e4]

/-- All runs' bytes. -/
def sumN (E : List Ext) : Int := E.foldl (fun n e => n + e.N) 0
theorem sumN_add (E : List Ext) (o a : Int) : sumN (addE E o a 1) = sumN E + 1 := by
  unfold sumN
  rcases List.eq_nil_or_concat E with rfl | ⟨M, e0, rfl⟩
  · rfl
  · simp only [addE, List.concat_eq_append, List.getLast?_append, List.getLast?_singleton, Option.some_or, List.dropLast_concat]
    cases (e0.Object == o && e0.At + e0.N == a) with
    | true => rw [cond_true, List.foldl_append, List.foldl_append]; simp only [List.foldl_cons, List.foldl_nil]; omega
    | false => rw [cond_false, List.foldl_append]; rfl
theorem sumN_bytes (l : Lay) : ∀ m : Nat, sumN (bytesE l m [] 0) = m
  | 0 => rfl
  | m + 1 => by
    have e1 : bytesE l (m + 1) [] 0 = addE (bytesE l m [] 0) (plc l m).1 (plc l m).2 1 := by
      rw [bytesE_add l m 1]; simp [bytesE]
    rw [e1, sumN_add, sumN_bytes l m]; push_cast; rfl
end Go.Proofs.YtfdojammchbboaaDoor
