/-
  CHAPTER 16: infos, their order, and the order of a rank.
-/
import Derived.Test.YthaokdobgmbeeaaPcmp
set_option linter.unusedVariables false
namespace Go.Proofs.Ythaokdobgmbeeaa
open Go Sx

structure Inf where
  les : Int
  he : Int
  hn : Int
  te : Int
  tn : Int
  born : Int

def dI : Inf := ⟨0, 0, 0, 0, 0, 0⟩

def Inf.row (x : Inf) : List Value := [.int .i64 x.les, .int .i64 x.he, .int .i64 x.hn, .int .i64 x.te, .int .i64 x.tn, .int .i64 x.born]
def encInf (l : List Inf) : List (List Value) := l.map Inf.row

theorem encInf_len (l : List Inf) : l.length = (encInf l).length := by simp [encInf]
theorem encInf_at {l : List Inf} {i : Nat} (h : i < l.length) : (encInf l)[i]? = some [.int .i64 (l.getD i dI).les, .int .i64 (l.getD i dI).he, .int .i64 (l.getD i dI).hn, .int .i64 (l.getD i dI).te, .int .i64 (l.getD i dI).tn, .int .i64 (l.getD i dI).born] := by
  simp [encInf, List.getElem?_eq_getElem h, List.getD, Inf.row]

def infF (a b : Inf) : Int :=
  if a.les > b.les then 1 else if a.les < b.les then -1 else if verF a.he a.hn b.he b.hn ≠ 0 then verF a.he a.hn b.he b.hn else verF b.te b.tn a.te a.tn

/-- The greatest last epoch of the first k. -/
def lesTo (l : List Inf) : Nat → Int
  | 0 => 0
  | k + 1 => if k = 0 ∨ (l.getD k dI).les > lesTo l k then (l.getD k dI).les else lesTo l k

/-- The order of a rank: places i and k of the osds told. -/
def rankF (osds : List Int) (infos : List Inf) (self : Int) (i k : Nat) : Int :=
  if infF (infos.getD k dI) (infos.getD i dI) ≠ 0 then infF (infos.getD k dI) (infos.getD i dI)
  else if osds.getD i 0 = osds.getD k 0 then 0 else if osds.getD i 0 = self then -1 else if osds.getD k 0 = self then 1 else if osds.getD i 0 < osds.getD k 0 then -1 else 1

end Go.Proofs.Ythaokdobgmbeeaa
