/-
  The engine, part 6: small facts that the printed proofs use.
-/
import Derived.Test.YtcegkgbceogflaaSxe
set_option linter.unusedVariables false
set_option linter.unusedSimpArgs false
namespace Sx
open Go Go.RowKit

theorem wrap_i64 {x : Int} (h1 : -9223372036854775808 ≤ x) (h2 : x ≤ 9223372036854775807) : IntKind.i64.wrap x = x := by
  simp [IntKind.wrap, IntKind.bits, IntKind.signed]
  omega

theorem wrap_u {k : IntKind} (hk : k.signed = false) {x : Int} (h1 : 0 ≤ x) (h2 : x < 2 ^ k.bits) : k.wrap x = x := by
  unfold IntKind.wrap
  simp only [hk, Bool.false_and, Bool.false_eq_true, if_false]
  exact Int.emod_eq_of_lt h1 h2

theorem wrap_u64 {x : Int} (h1 : 0 ≤ x) (h2 : x < 18446744073709551616) : IntKind.u64.wrap x = x := wrap_u (k := .u64) rfl h1 h2

theorem Sat.start {w : World} {S : Area} : Sat w S (look []) w :=
  ⟨Keep.refl _ _, fun _ _ h => by simp [look] at h, fun _ _ h => by simp [look] at h, fun _ _ _ _ _ h => by simp [look] at h, fun _ _ h => by simp [look] at h⟩

theorem CallOK.of {P : Program} {f : FuncId} {args : Array Value} {v : Value} {es : List (Option Ent)}
    (h : ∀ w, (∀ E, some E ∈ es → E.ok w) → Calls P f args w fun e w' => e = .returned v ∧ Keep (fun _ => False) w w') : CallOK P f args v es := h

theorem bool_eq {a b : Bool} (h : a = b) : Value.bool a = Value.bool b := by rw [h]

end Sx
