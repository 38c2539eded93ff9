/-
  Comparisons.
-/
import Derived.Test.YthaokdobgmbeeaaSxh
set_option linter.unusedVariables false
namespace Go.Proofs.Ythaokdobgmbeeaa
open Go Sx

def cmpI (x y : Int) : Int := if x < y then -1 else if x > y then 1 else 0

/-- Versions (epoch a, number b) and (epoch c, number d) compared. -/
def verF (a b c d : Int) : Int := if cmpI a c ≠ 0 then cmpI a c else cmpI b d

end Go.Proofs.Ythaokdobgmbeeaa
