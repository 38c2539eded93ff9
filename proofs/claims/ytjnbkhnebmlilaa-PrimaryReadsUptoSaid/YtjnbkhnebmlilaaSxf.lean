/-
  The engine, part 6: small facts that the printed proofs use.
-/
import Derived.Test.YtjnbkhnebmlilaaSxe
set_option linter.unusedVariables false
set_option linter.unusedSimpArgs false
namespace Sx
open Go Go.RowKit

def iand (k : IntKind) (a b : Int) : Int := k.wrap ((BitVec.ofInt k.bits a &&& BitVec.ofInt k.bits b).toNat : Int)
def ixor (k : IntKind) (a b : Int) : Int := k.wrap ((BitVec.ofInt k.bits a ^^^ BitVec.ofInt k.bits b).toNat : Int)
theorem wrap_i64 {x : Int} (h1 : -9223372036854775808 ≤ x) (h2 : x ≤ 9223372036854775807) : IntKind.i64.wrap x = x := by
  simp [IntKind.wrap, IntKind.bits, IntKind.signed]
  omega

theorem Sat.start {w : World} {S : Area} : Sat w S (look []) w :=
  ⟨Keep.refl _ _, fun _ _ h => by simp [look] at h, fun _ _ h => by simp [look] at h, fun _ _ _ _ _ h => by simp [look] at h, fun _ _ h => by simp [look] at h⟩

theorem CallOK.of {P : Program} {f : FuncId} {args : Array Value} {v : Value} {es : List (Option Ent)}
    (h : ∀ w, (∀ E, some E ∈ es → E.ok w) → Calls P f args w fun e w' => e = .returned v ∧ Keep (fun _ => False) w w') : CallOK P f args v es := h

theorem bool_eq {a b : Bool} (h : a = b) : Value.bool a = Value.bool b := by rw [h]

end Sx
