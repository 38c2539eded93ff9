/-
  Models, part 10: lists that are linked.
-/
import Derived.Test.YtcegkgbceogflaaGxi
set_option linter.unusedVariables false
set_option linter.unusedSimpArgs false
namespace Sx
open Go Go.RowKit

section
variable {α : Type}
end

section
variable {α : Type} {w0 w : World} {S : Area} {mem mem' : List (Nat × Ent)} {K K1 K2 : Nat} {T : Nat} {X : Hd → Value → α → List Value} {h h2 : Hds} {q : Option Addr} {l m : List α}

end

/-! ### The same in one step each -/
section
variable {α : Type} {w0 w : World} {S : Area} {mem mem' : List (Nat × Ent)} {K K1 K2 I I2 KR KI N : Nat} {T : Nat} {X : Hd → Value → α → List Value} {J : Hd → α → List Ent} {h h2 : Hds} {q : Option Addr} {l m : List α} {x : α} {er : Ent}

end

section
variable {P : Program} {b : Frame} {n : Nat} {w0 : World} {S : Area} {R : Ending → World → Prop} {k : List Item}
end
end Sx
