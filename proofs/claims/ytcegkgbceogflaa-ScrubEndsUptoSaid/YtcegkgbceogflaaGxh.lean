/-
  Models, part 8: closed runs (rows that are written out).
-/
import Derived.Test.YtcegkgbceogflaaGxg
set_option linter.unusedVariables false
set_option linter.unusedSimpArgs false
namespace Sx
open Go Go.RowKit
end Sx
