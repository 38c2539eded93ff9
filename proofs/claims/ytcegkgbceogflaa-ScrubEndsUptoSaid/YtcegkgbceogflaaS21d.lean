/-
  CHAPTER 21: what slices.Sort makes of strings and of numbers; entries that a call leaves behind untold.
-/
import Derived.Test.YtcegkgbceogflaaGxn
set_option linter.unusedVariables false
set_option linter.unusedSimpArgs false
namespace Go.Proofs.Ytcegkgbceogflaa
open Go Go.RowKit Sx

/-- What slices.Sort makes of strings. -/
def ssort (l : List ByteArray) : List ByteArray := ((l.map fun s => s.data.toList).mergeSort fun x y => decide (x ≤ y)).map fun b => ⟨b.toArray⟩
theorem sort_length (l : List ByteArray) : (ssort l).length = l.length := by simp [ssort]
/-- And of numbers. -/
def nsort (l : List Int) : List Int := l.mergeSort fun x y => decide (x ≤ y)
theorem nsort_length (l : List Int) : (nsort l).length = l.length := by simp [nsort]
end Go.Proofs.Ytcegkgbceogflaa
