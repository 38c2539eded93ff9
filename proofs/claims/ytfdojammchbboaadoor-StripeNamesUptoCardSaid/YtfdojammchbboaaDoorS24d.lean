/-
  CHAPTER 24: what strconv.Atoi makes of a text.
-/
import Derived.Test.YtfdojammchbboaaDoorGxd
import Derived.Lib.AtoiAll
import Derived.Lib.ItoaNum
set_option linter.unusedVariables false
set_option linter.unusedSimpArgs false
set_option maxRecDepth 100000
namespace Go.Proofs.YtfdojammchbboaaDoor
open Go Go.RowKit Sx

/-- Does the text spell an int? -/
def atok (s : ByteArray) : Bool := match Lib.atoiAll s.data.toList with | .ok _ => true | _ => false
/-- The number beside. -/
def atoiV (s : ByteArray) : Int := match Lib.atoiAll s.data.toList with | .ok v => v | .range => Lib.atoiSat s.data.toList | _ => 0
end Go.Proofs.YtfdojammchbboaaDoor
