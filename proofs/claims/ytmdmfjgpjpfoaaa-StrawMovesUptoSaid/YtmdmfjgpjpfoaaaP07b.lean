/-
  CHAPTER 7: facts on the numbers that the laws of chapter 7 compute.
-/
import Derived.Test.YtmdmfjgpjpfoaaaP07a
import Derived.Test.YtmdmfjgpjpfoaaaSxh
set_option linter.unusedVariables false
namespace Go.Proofs.Ytmdmfjgpjpfoaaa
open Go Sx

theorem lives1 : chooseF [5] [1] 7 0 = (0, true) := by decide +kernel
theorem lives2 : chooseF [] [] 7 0 = (0, false) := by decide +kernel
theorem lives3 : (lnF 3 : Int) = 35184372088832 := by decide +kernel
theorem lives4 : drawF 0 65536 = -4294967296 := by decide +kernel
theorem lives5 : drawF 65535 1 = 0 := by decide +kernel
theorem lives6 : (lnF 0 : Int) = 0 := by decide +kernel
theorem lives7 : (lnF 65535 : Int) = 281474976710656 := by decide +kernel

end Go.Proofs.Ytmdmfjgpjpfoaaa
