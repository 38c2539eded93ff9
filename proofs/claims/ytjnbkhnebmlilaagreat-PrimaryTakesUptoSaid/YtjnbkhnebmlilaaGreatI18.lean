/-
  CHAPTER 18: slices.Insert.
-/
import Derived.Test.YtjnbkhnebmlilaaGreatI18a
import Derived.Test.YtjnbkhnebmlilaaGreatI18b
set_option linter.unusedVariables false
set_option linter.unusedSimpArgs false
set_option maxRecDepth 100000
namespace Go.Proofs.YtjnbkhnebmlilaaGreat
open Go Go.RowKit Sx

end Go.Proofs.YtjnbkhnebmlilaaGreat
