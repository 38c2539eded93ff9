/-
  CHAPTER 13: slices.Insert.
-/
import Derived.Test.YtmoaiokgbjkaaaaI13a
import Derived.Test.YtmoaiokgbjkaaaaI13b
set_option linter.unusedVariables false
set_option linter.unusedSimpArgs false
set_option maxRecDepth 100000
namespace Go.Proofs.Ytmoaiokgbjkaaaa
open Go Go.RowKit Sx

end Go.Proofs.Ytmoaiokgbjkaaaa
