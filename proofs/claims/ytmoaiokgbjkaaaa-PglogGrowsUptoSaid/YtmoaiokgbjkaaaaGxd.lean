/-
  Models, part 4: arrays whose places are variables; entries that lie in others.
-/
import Derived.Test.YtmoaiokgbjkaaaaGxc
set_option linter.unusedVariables false
set_option linter.unusedSimpArgs false
namespace Sx
open Go Go.RowKit

theorem Cov.trans {a b c : Ent} (h : Cov a b) (h' : Cov b c) : Cov a c :=
  ⟨fun w hw => h'.1 w (h.1 w hw), fun w hw k hk => h.2 w hw k (h'.2 w (h.1 w hw) k hk)⟩
/-- An entry that says a plain fact. -/
@[reducible] def Ent.fact (p : Prop) : Ent := .say false (fun _ => False) (fun _ => p) (fun _ _ _ h => h)
end Sx
