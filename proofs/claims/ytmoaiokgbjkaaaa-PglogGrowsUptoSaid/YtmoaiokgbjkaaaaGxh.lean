/-
  Models, part 8: closed runs (rows that are written out).
-/
import Derived.Test.YtmoaiokgbjkaaaaGxg
set_option linter.unusedVariables false
set_option linter.unusedSimpArgs false
namespace Sx
open Go Go.RowKit
theorem ne_rd {ob : Option Addr} {sz : Nat} {r : List Value} {rows : List (List Value)} {w : World} (h : (Ent.rd ob sz (r :: rows)).ok w) : ob.isNone = false := by
  obtain ⟨a, ha, _⟩ := h.1 (by simp)
  rw [ha]; rfl
theorem ne_osl {ob : Option Addr} {cap T sz : Nat} {r : List Value} {rows : List (List Value)} {w : World} (h : (Ent.osl ob cap T sz (r :: rows)).ok w) : ob.isNone = false := ne_rd (Ent.osl_rd h)

end Sx
