/-
  The engine, part 19: a call that comes back in one of several forms.
-/
import Derived.Test.YtjnbkhnebmlilaaGxl
set_option linter.unusedVariables false
namespace Sx
open Go Go.RowKit

theorem CallG.fT {P : Program} {g : FuncId} {args : Array Value} {X : Type} {c : Bool} {v1 v2 : X → Value} {own ro : List Ent} {e1 e2 : X → List Ent} (h : c = true)
    (H : CallG P g args (fun x => bif c then v1 x else v2 x) own ro (fun x => bif c then e1 x else e2 x)) : CallG P g args v1 own ro e1 := by
  subst h; exact H
theorem CallG.fF {P : Program} {g : FuncId} {args : Array Value} {X : Type} {c : Bool} {v1 v2 : X → Value} {own ro : List Ent} {e1 e2 : X → List Ent} (h : c = false)
    (H : CallG P g args (fun x => bif c then v1 x else v2 x) own ro (fun x => bif c then e1 x else e2 x)) : CallG P g args v2 own ro e2 := by
  subst h; exact H

end Sx
