/-
  CHAPTER 14: what slices.Sort and slices.Compact make of strings.
-/
import Derived.Test.YtdelhcdknglibaaGxd
set_option linter.unusedVariables false
set_option linter.unusedSimpArgs false
set_option maxRecDepth 100000
namespace Go.Proofs.Ytdelhcdknglibaa
open Go Go.RowKit Sx

/-- What is left of a list when of equal neighbours the first alone stays: place j stays if it is the first or another one than the place before it. -/
def lkeeps (d : Array (List UInt8)) (j : Nat) : Bool := decide (j = 0 ∨ d[j]! ≠ d[j - 1]!)
def lcompact (l : List (List UInt8)) : List (List UInt8) := ((List.range l.length).filter (lkeeps l.toArray)).map (l.toArray[·]!)
/-- What slices.Sort makes of strings. -/
def ssort (l : List ByteArray) : List ByteArray := ((l.map fun s => s.data.toList).mergeSort fun x y => decide (x ≤ y)).map fun b => ⟨b.toArray⟩
/-- What slices.Compact leaves of strings. -/
def scompact (l : List ByteArray) : List ByteArray := (lcompact (l.map fun s => s.data.toList)).map fun b => ⟨b.toArray⟩

theorem sort_length (l : List ByteArray) : (ssort l).length = l.length := by simp [ssort]
end Go.Proofs.Ytdelhcdknglibaa
