/-
  No cell of these rows narrows 'for every input' (looked for: loops, veiled, ifaces, maps, wideKeys, modest, calm, conditions, laid).
  DERIVED. THE GIVEN ROWS OF THIS SEAT. 6 by the template 'for every input the law returns true; each argument reads behind the call as it read before'; 0 by the template 'total and deterministic' (their statements: YtmdmfjgpjpfoaaaTotals.lean).
  GIVEN WITH THE SEED: the statements are not yours to turn. If you find one false, say at which input.
  Laid BY PROGRAM, IN A SANDBOX (cutbox-rows.mjs): the forced cells as the released guide's own fill.sh prints them over the translation 60eb4e1e0f40b9a2… (all of the seat's roots in one cut). By AI agents, Wed Nov 11 2026. No macro, syntax, notation, axiom, sorry.
-/
import Derived.Test.YtmdmfjgpjpfoaaaChecked
import GoSem.Claim
import GoSem.ClaimJoined
import GoSem.ClaimMapViews
import Derived.JoinedTies
import Derived.KernelRfl
namespace Go.Proofs.Ytmdmfjgpjpfoaaa
/- THE CELL 'sum', in the pinned program and in every row, IS THE sha256 OF THE DUMP (.gsa) THAT YtmdmfjgpjpfoaaaProg.lean LOADS. Nothing in Lean hashes anything: it is a label: what it is worth is what the hold of that sum in a sandbox is worth. -/
noncomputable def Try.pinned : Pinned := { name := "ytmdmfjgpjpfoaaa", sum := "60eb4e1e0f40b9a29b97c6793b8bc6d6e242f15133bc25a1048dc481b770dffe", checked := Try.checked }
namespace Rows
def none {H : Type} : Left H := { results := [], args := [] }

/-- 'tholelaw07.StrawLn': WHATEVER THE INPUT: true; the input reads as it did. -/
def strawLnSpec : ChangeSpec := { name := "strawLn", fn := fun _ => fun
  | [d] => { results := [.lit (.bool true)], args := [d] }
  | _ => none }
def strawLnRow : OpenClaim := { program := "ytmdmfjgpjpfoaaa", sum := "60eb4e1e0f40b9a29b97c6793b8bc6d6e242f15133bc25a1048dc481b770dffe", func := "thole/tholelaw07.StrawLn", spec := "strawLn", unfollowed := true, recurses := true, apart := false }
def StrawLnSaid : Prop := strawLnRow.holds Try.pinned (OpenSpec.ofChange strawLnSpec)

/-- ITS FALSE NEIGHBOUR: 'it returns false'. Refute it at one input. -/
def strawLnWrong : ChangeSpec := { name := "strawLn", fn := fun _ => fun
  | [d] => { results := [.lit (.bool false)], args := [d] }
  | _ => none }
def StrawLnWrongFalsely : Prop := strawLnRow.holds Try.pinned (OpenSpec.ofChange strawLnWrong)

/-- 'tholelaw07.StrawDraws': WHATEVER THE INPUT: true; the input reads as it did. -/
def strawDrawsSpec : ChangeSpec := { name := "strawDraws", fn := fun _ => fun
  | [d1, d2] => { results := [.lit (.bool true)], args := [d1, d2] }
  | _ => none }
def strawDrawsRow : OpenClaim := { program := "ytmdmfjgpjpfoaaa", sum := "60eb4e1e0f40b9a29b97c6793b8bc6d6e242f15133bc25a1048dc481b770dffe", func := "thole/tholelaw07.StrawDraws", spec := "strawDraws", unfollowed := true, recurses := true, apart := false }
def StrawDrawsSaid : Prop := strawDrawsRow.holds Try.pinned (OpenSpec.ofChange strawDrawsSpec)

/-- ITS FALSE NEIGHBOUR: 'it returns false'. Refute it at one input. -/
def strawDrawsWrong : ChangeSpec := { name := "strawDraws", fn := fun _ => fun
  | [d1, d2] => { results := [.lit (.bool false)], args := [d1, d2] }
  | _ => none }
def StrawDrawsWrongFalsely : Prop := strawDrawsRow.holds Try.pinned (OpenSpec.ofChange strawDrawsWrong)

/-- 'tholelaw07.StrawRises': WHATEVER THE INPUT: true; the input reads as it did. -/
def strawRisesSpec : ChangeSpec := { name := "strawRises", fn := fun _ => fun
  | [d] => { results := [.lit (.bool true)], args := [d] }
  | _ => none }
def strawRisesRow : OpenClaim := { program := "ytmdmfjgpjpfoaaa", sum := "60eb4e1e0f40b9a29b97c6793b8bc6d6e242f15133bc25a1048dc481b770dffe", func := "thole/tholelaw07.StrawRises", spec := "strawRises", unfollowed := true, recurses := true, apart := false }
def StrawRisesSaid : Prop := strawRisesRow.holds Try.pinned (OpenSpec.ofChange strawRisesSpec)

/-- ITS FALSE NEIGHBOUR: 'it returns false'. Refute it at one input. -/
def strawRisesWrong : ChangeSpec := { name := "strawRises", fn := fun _ => fun
  | [d] => { results := [.lit (.bool false)], args := [d] }
  | _ => none }
def StrawRisesWrongFalsely : Prop := strawRisesRow.holds Try.pinned (OpenSpec.ofChange strawRisesWrong)

/-- 'tholelaw07.StrawMoves': WHATEVER THE INPUT: true; the input reads as it did. -/
def strawMovesSpec : ChangeSpec := { name := "strawMoves", fn := fun _ => fun
  | [d1, d2, d3] => { results := [.lit (.bool true)], args := [d1, d2, d3] }
  | _ => none }
def strawMovesRow : OpenClaim := { program := "ytmdmfjgpjpfoaaa", sum := "60eb4e1e0f40b9a29b97c6793b8bc6d6e242f15133bc25a1048dc481b770dffe", func := "thole/tholelaw07.StrawMoves", spec := "strawMoves", unfollowed := true, recurses := true, apart := false }
def StrawMovesSaid : Prop := strawMovesRow.holds Try.pinned (OpenSpec.ofChange strawMovesSpec)

/-- ITS FALSE NEIGHBOUR: 'it returns false'. Refute it at one input. -/
def strawMovesWrong : ChangeSpec := { name := "strawMoves", fn := fun _ => fun
  | [d1, d2, d3] => { results := [.lit (.bool false)], args := [d1, d2, d3] }
  | _ => none }
def StrawMovesWrongFalsely : Prop := strawMovesRow.holds Try.pinned (OpenSpec.ofChange strawMovesWrong)

/-- 'tholelaw07.StrawChooses': WHATEVER THE INPUT: true; the input reads as it did. -/
def strawChoosesSpec : ChangeSpec := { name := "strawChooses", fn := fun _ => fun
  | [d1, d2, d3] => { results := [.lit (.bool true)], args := [d1, d2, d3] }
  | _ => none }
def strawChoosesRow : OpenClaim := { program := "ytmdmfjgpjpfoaaa", sum := "60eb4e1e0f40b9a29b97c6793b8bc6d6e242f15133bc25a1048dc481b770dffe", func := "thole/tholelaw07.StrawChooses", spec := "strawChooses", unfollowed := true, recurses := true, apart := false }
def StrawChoosesSaid : Prop := strawChoosesRow.holds Try.pinned (OpenSpec.ofChange strawChoosesSpec)

/-- ITS FALSE NEIGHBOUR: 'it returns false'. Refute it at one input. -/
def strawChoosesWrong : ChangeSpec := { name := "strawChooses", fn := fun _ => fun
  | [d1, d2, d3] => { results := [.lit (.bool false)], args := [d1, d2, d3] }
  | _ => none }
def StrawChoosesWrongFalsely : Prop := strawChoosesRow.holds Try.pinned (OpenSpec.ofChange strawChoosesWrong)

/-- 'tholelaw07.StrawShares': WHATEVER THE INPUT: true; the input reads as it did. -/
def strawSharesSpec : ChangeSpec := { name := "strawShares", fn := fun _ => fun
  | [d1, d2] => { results := [.lit (.bool true)], args := [d1, d2] }
  | _ => none }
def strawSharesRow : OpenClaim := { program := "ytmdmfjgpjpfoaaa", sum := "60eb4e1e0f40b9a29b97c6793b8bc6d6e242f15133bc25a1048dc481b770dffe", func := "thole/tholelaw07.StrawShares", spec := "strawShares", unfollowed := true, recurses := true, apart := false }
def StrawSharesSaid : Prop := strawSharesRow.holds Try.pinned (OpenSpec.ofChange strawSharesSpec)

/-- ITS FALSE NEIGHBOUR: 'it returns false'. Refute it at one input. -/
def strawSharesWrong : ChangeSpec := { name := "strawShares", fn := fun _ => fun
  | [d1, d2] => { results := [.lit (.bool false)], args := [d1, d2] }
  | _ => none }
def StrawSharesWrongFalsely : Prop := strawSharesRow.holds Try.pinned (OpenSpec.ofChange strawSharesWrong)

/- THE SECOND FORM. 'bulk': how many values and letters a reading holds, each counted each time it is reached (what is shared counts as often as it is met; a slice's spare places count too). A statement '..UptoSaid' is the law's where the arguments, and the package variables that the reading takes, are together of bulk at most 1048576: NARROWER than '..Said'. Prove '..Said' where nothing that the law and all that it calls make is longer than what came in: it says more and counts as full. Else prove '..UptoSaid'. A law counts once. -/
mutual
def uptoBulk {H : Type} : DataW H → Nat
  | .lit (.string bytes) => bytes.length + 1
  | .lit _ => 1
  | .nil => 1
  | .ptr d => uptoBulk d + 1
  | .slice elems spare => uptoBulkAll elems + uptoBulkAll spare + 1
  | .agg parts => uptoBulkAll parts + 1
  | .iface _ d => uptoBulk d + 1
  | .map entries => uptoBulkEntries entries + 1
  | .held _ => 1
def uptoBulkAll {H : Type} : List (DataW H) → Nat
  | [] => 0
  | d :: r => uptoBulk d + uptoBulkAll r
def uptoBulkEntries {H : Type} : List (Lit × DataW H) → Nat
  | [] => 0
  | x :: r => uptoBulkEntry x + uptoBulkEntries r
def uptoBulkEntry {H : Type} : Lit × DataW H → Nat
  | (.string bytes, d) => bytes.length + uptoBulk d + 1
  | (_, d) => uptoBulk d + 1
 end
def uptoSmall : (H : Type) → List (DataW H) → Bool := fun _ ds => decide (uptoBulkAll ds ≤ 1048576)
def OpenSpec.upto (s : _root_.Go.ChangeSpec) : _root_.Go.OpenSpec := { _root_.Go.OpenSpec.ofChange s with cond := some uptoSmall }

/-- 'tholelaw07.StrawLn', WHERE WHAT IT READS IS OF BULK AT MOST 1048576: true; the input reads as it did. -/
def strawLnUptoRow : OpenClaim := { program := "ytmdmfjgpjpfoaaa", sum := "60eb4e1e0f40b9a29b97c6793b8bc6d6e242f15133bc25a1048dc481b770dffe", func := "thole/tholelaw07.StrawLn", spec := "strawLn", unfollowed := true, recurses := true, apart := false, narrowed := true }
def StrawLnUptoSaid : Prop := strawLnUptoRow.holds Try.pinned (OpenSpec.upto strawLnSpec)

/-- 'tholelaw07.StrawDraws', WHERE WHAT IT READS IS OF BULK AT MOST 1048576: true; the input reads as it did. -/
def strawDrawsUptoRow : OpenClaim := { program := "ytmdmfjgpjpfoaaa", sum := "60eb4e1e0f40b9a29b97c6793b8bc6d6e242f15133bc25a1048dc481b770dffe", func := "thole/tholelaw07.StrawDraws", spec := "strawDraws", unfollowed := true, recurses := true, apart := false, narrowed := true }
def StrawDrawsUptoSaid : Prop := strawDrawsUptoRow.holds Try.pinned (OpenSpec.upto strawDrawsSpec)

/-- 'tholelaw07.StrawRises', WHERE WHAT IT READS IS OF BULK AT MOST 1048576: true; the input reads as it did. -/
def strawRisesUptoRow : OpenClaim := { program := "ytmdmfjgpjpfoaaa", sum := "60eb4e1e0f40b9a29b97c6793b8bc6d6e242f15133bc25a1048dc481b770dffe", func := "thole/tholelaw07.StrawRises", spec := "strawRises", unfollowed := true, recurses := true, apart := false, narrowed := true }
def StrawRisesUptoSaid : Prop := strawRisesUptoRow.holds Try.pinned (OpenSpec.upto strawRisesSpec)

/-- 'tholelaw07.StrawMoves', WHERE WHAT IT READS IS OF BULK AT MOST 1048576: true; the input reads as it did. -/
def strawMovesUptoRow : OpenClaim := { program := "ytmdmfjgpjpfoaaa", sum := "60eb4e1e0f40b9a29b97c6793b8bc6d6e242f15133bc25a1048dc481b770dffe", func := "thole/tholelaw07.StrawMoves", spec := "strawMoves", unfollowed := true, recurses := true, apart := false, narrowed := true }
def StrawMovesUptoSaid : Prop := strawMovesUptoRow.holds Try.pinned (OpenSpec.upto strawMovesSpec)

/-- 'tholelaw07.StrawChooses', WHERE WHAT IT READS IS OF BULK AT MOST 1048576: true; the input reads as it did. -/
def strawChoosesUptoRow : OpenClaim := { program := "ytmdmfjgpjpfoaaa", sum := "60eb4e1e0f40b9a29b97c6793b8bc6d6e242f15133bc25a1048dc481b770dffe", func := "thole/tholelaw07.StrawChooses", spec := "strawChooses", unfollowed := true, recurses := true, apart := false, narrowed := true }
def StrawChoosesUptoSaid : Prop := strawChoosesUptoRow.holds Try.pinned (OpenSpec.upto strawChoosesSpec)

/-- 'tholelaw07.StrawShares', WHERE WHAT IT READS IS OF BULK AT MOST 1048576: true; the input reads as it did. -/
def strawSharesUptoRow : OpenClaim := { program := "ytmdmfjgpjpfoaaa", sum := "60eb4e1e0f40b9a29b97c6793b8bc6d6e242f15133bc25a1048dc481b770dffe", func := "thole/tholelaw07.StrawShares", spec := "strawShares", unfollowed := true, recurses := true, apart := false, narrowed := true }
def StrawSharesUptoSaid : Prop := strawSharesUptoRow.holds Try.pinned (OpenSpec.upto strawSharesSpec)

end Rows
end Go.Proofs.Ytmdmfjgpjpfoaaa
