/-
  The engine, part 6: small facts that the printed proofs use.
-/
import Derived.Test.YtmdfkklldbfocaaSxe
set_option linter.unusedVariables false
set_option linter.unusedSimpArgs false
namespace Sx
open Go Go.RowKit

def iand (k : IntKind) (a b : Int) : Int := k.wrap ((BitVec.ofInt k.bits a &&& BitVec.ofInt k.bits b).toNat : Int)
def ior (k : IntKind) (a b : Int) : Int := k.wrap ((BitVec.ofInt k.bits a ||| BitVec.ofInt k.bits b).toNat : Int)
def ixor (k : IntKind) (a b : Int) : Int := k.wrap ((BitVec.ofInt k.bits a ^^^ BitVec.ofInt k.bits b).toNat : Int)
def iandn (k : IntKind) (a b : Int) : Int := k.wrap ((BitVec.ofInt k.bits a &&& ~~~(BitVec.ofInt k.bits b)).toNat : Int)

theorem wrap_i64 {x : Int} (h1 : -9223372036854775808 ≤ x) (h2 : x ≤ 9223372036854775807) : IntKind.i64.wrap x = x := by
  simp [IntKind.wrap, IntKind.bits, IntKind.signed]
  omega

theorem w64 {x y : Int} (h : x = y) (h1 : -9223372036854775808 ≤ y) (h2 : y ≤ 9223372036854775807) : (Value.int .i64 (IntKind.i64.wrap x)) = Value.int .i64 y := by
  subst h; rw [wrap_i64 h1 h2]

theorem wrap_u {k : IntKind} (hk : k.signed = false) {x : Int} (h1 : 0 ≤ x) (h2 : x < 2 ^ k.bits) : k.wrap x = x := by
  unfold IntKind.wrap
  simp only [hk, Bool.false_and, Bool.false_eq_true, if_false]
  exact Int.emod_eq_of_lt h1 h2

theorem wrap_u_range {k : IntKind} (hk : k.signed = false) (x : Int) : 0 ≤ k.wrap x ∧ k.wrap x < 2 ^ k.bits := by
  unfold IntKind.wrap
  simp only [hk, Bool.false_and, Bool.false_eq_true, if_false]
  have hp : (0 : Int) < 2 ^ k.bits := by cases k <;> decide
  exact ⟨Int.emod_nonneg _ (by omega), Int.emod_lt_of_pos _ hp⟩

theorem wrap_u32_range (x : Int) : 0 ≤ IntKind.u32.wrap x ∧ IntKind.u32.wrap x < 4294967296 := wrap_u_range (k := .u32) rfl x
theorem wrap_u64_range (x : Int) : 0 ≤ IntKind.u64.wrap x ∧ IntKind.u64.wrap x < 18446744073709551616 := wrap_u_range (k := .u64) rfl x
theorem wrap_u8_range (x : Int) : 0 ≤ IntKind.u8.wrap x ∧ IntKind.u8.wrap x < 256 := wrap_u_range (k := .u8) rfl x
theorem wrap_u32 {x : Int} (h1 : 0 ≤ x) (h2 : x < 4294967296) : IntKind.u32.wrap x = x := wrap_u (k := .u32) rfl h1 h2
theorem wrap_u64 {x : Int} (h1 : 0 ≤ x) (h2 : x < 18446744073709551616) : IntKind.u64.wrap x = x := wrap_u (k := .u64) rfl h1 h2

theorem Sat.start {w : World} {S : Area} : Sat w S (look []) w :=
  ⟨Keep.refl _ _, fun _ _ h => by simp [look] at h, fun _ _ h => by simp [look] at h, fun _ _ _ _ _ h => by simp [look] at h, fun _ _ h => by simp [look] at h⟩

theorem CallOK.of {P : Program} {f : FuncId} {args : Array Value} {v : Value} {es : List (Option Ent)}
    (h : ∀ w, (∀ E, some E ∈ es → E.ok w) → Calls P f args w fun e w' => e = .returned v ∧ Keep (fun _ => False) w w') : CallOK P f args v es := h

theorem int_eq {k : IntKind} {a b : Int} (h : a = b) : Value.int k a = Value.int k b := by rw [h]
theorem bool_eq {a b : Bool} (h : a = b) : Value.bool a = Value.bool b := by rw [h]

theorem wu64 {x y : Int} (h : x = y) (h1 : 0 ≤ y) (h2 : y < 18446744073709551616) : (Value.int .u64 (IntKind.u64.wrap x)) = Value.int .u64 y := by
  subst h; rw [wrap_u64 h1 h2]

theorem wu32 {x y : Int} (h : x = y) (h1 : 0 ≤ y) (h2 : y < 4294967296) : (Value.int .u32 (IntKind.u32.wrap x)) = Value.int .u32 y := by
  subst h; rw [wrap_u32 h1 h2]

/-- A shift to the left by a number of places that is known to be small. -/
theorem shl_nat (x n : Nat) (hn : n ≤ 64) : (x : Int) * 2 ^ (min (Int.toNat ((n : Nat) : Int)) 64) = ((x * 2 ^ n : Nat) : Int) := by
  rw [Int.toNat_natCast, Nat.min_eq_left hn, Int.natCast_mul, Int.natCast_pow]
  rfl

theorem shr_nat (x n : Nat) : Int.fdiv (x : Int) (2 ^ n) = ((x / 2 ^ n : Nat) : Int) := by
  rw [Int.fdiv_eq_ediv_of_nonneg _ (Int.le_of_lt (Int.pow_pos (by decide)))]
  push_cast
  rfl

theorem u64_nat {x : Nat} (h : x < 18446744073709551616) : IntKind.u64.wrap (x : Int) = x := wrap_u64 (by omega) (by omega)
theorem u32_nat {x : Nat} (h : x < 4294967296) : IntKind.u32.wrap (x : Int) = x := wrap_u32 (by omega) (by omega)
theorem wrap_u8 {x : Int} (h1 : 0 ≤ x) (h2 : x < 256) : IntKind.u8.wrap x = x := wrap_u (k := .u8) rfl h1 h2

end Sx
