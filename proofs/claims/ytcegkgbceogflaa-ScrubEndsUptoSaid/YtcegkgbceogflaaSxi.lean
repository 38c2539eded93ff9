/-
  The engine, part 9: more that memory tells.
-/
import Derived.Test.YtcegkgbceogflaaSxh
set_option linter.unusedVariables false
namespace Sx
open Go Go.RowKit

theorem look_append {l : List (Nat × Ent)} {k t : Nat} {x e : Ent} (h : look (l ++ [(k, x)]) t = some e) : look l t = some e ∨ e = x := by
  induction l with
  | nil =>
    simp only [List.nil_append, look] at h
    split at h
    · exact .inr (Option.some.inj h).symm
    · cases h
  | cons y l ih =>
    simp only [List.cons_append, look] at h ⊢
    split at h
    · exact .inl h
    · exact ih h

end Sx
