/-
  The engine, part 9: more that memory tells.
-/
import Derived.Test.YtjnbkhnebmlilaaSxh
set_option linter.unusedVariables false
namespace Sx
open Go Go.RowKit

theorem look_append {l : List (Nat × Ent)} {k t : Nat} {x e : Ent} (h : look (l ++ [(k, x)]) t = some e) : look l t = some e ∨ e = x := by
  induction l with
  | nil =>
    simp only [List.nil_append, look] at h
    split at h
    · exact .inr (Option.some.inj h).symm
    · cases h
  | cons y l ih =>
    simp only [List.cons_append, look] at h ⊢
    split at h
    · exact .inl h
    · exact ih h

theorem cut_zero (ob : Option Addr) (h m sz : Nat) : Value.slice (if m = 0 then ob else ob.map (fun a => a.add (0 * sz))) (h - 0) (m - 0) = Value.slice ob h m := by
  have : ob.map (fun a => a.add (0 * sz)) = ob := by
    cases ob with
    | none => rfl
    | some a => simp [Addr.add]
  rw [this]
  simp

end Sx
