/-
  CHAPTER 05, ExtentNone: the law on its model.
-/
import Derived.Test.YtmdfkklldbfocaaM05n
set_option linter.unusedVariables false
set_option linter.unusedSimpArgs false
set_option maxRecDepth 100000
namespace Go.Proofs.Ytmdfkklldbfocaa
open Go Go.RowKit Sx

theorem law_none {a0_Kind : Int} {a0_A : Int} {a0_B : Int} {a0_Data : List UInt8} : m_tholelaw05_ExtentNone 64 a0_Kind a0_A a0_B a0_Data = some true := by kernel_rfl
end Go.Proofs.Ytmdfkklldbfocaa
