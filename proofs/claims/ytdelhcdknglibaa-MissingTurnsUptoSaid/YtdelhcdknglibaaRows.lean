/-
  No cell of these rows narrows 'for every input' (looked for: loops, veiled, ifaces, maps, wideKeys, modest, calm, conditions, laid).
  DERIVED. THE GIVEN ROWS OF THIS SEAT. 4 by the template 'for every input the law returns true; each argument reads behind the call as it read before'; 0 by the template 'total and deterministic' (their statements: YtdelhcdknglibaaTotals.lean).
  GIVEN WITH THE SEED: the statements are not yours to turn. If you find one false, say at which input.
  Laid BY PROGRAM, IN A SANDBOX (cutbox-rows.mjs): the forced cells as the released guide's own fill.sh prints them over the translation cd77ecc83faabdd3… (all of the seat's roots in one cut). By AI agents, Wed Nov 11 2026. No macro, syntax, notation, axiom, sorry.
-/
import Derived.Test.YtdelhcdknglibaaChecked
import GoSem.Claim
import GoSem.ClaimJoined
import GoSem.ClaimMapViews
import Derived.JoinedTies
import Derived.KernelRfl
namespace Go.Proofs.Ytdelhcdknglibaa
/- THE CELL 'sum', in the pinned program and in every row, IS THE sha256 OF THE DUMP (.gsa) THAT YtdelhcdknglibaaProg.lean LOADS. Nothing in Lean hashes anything: it is a label: what it is worth is what the hold of that sum in a sandbox is worth. -/
noncomputable def Try.pinned : Pinned := { name := "ytdelhcdknglibaa", sum := "cd77ecc83faabdd34ffa42433f3e1c0221fade382d2e6ee8c78f606d2f9287fb", checked := Try.checked }
namespace Rows
def none {H : Type} : Left H := { results := [], args := [] }

/-- 'tholelaw14.MissingMeets': WHATEVER THE INPUT: true; the input reads as it did. -/
def missingMeetsSpec : ChangeSpec := { name := "missingMeets", fn := fun _ => fun
  | [d1, d2] => { results := [.lit (.bool true)], args := [d1, d2] }
  | _ => none }
def missingMeetsRow : OpenClaim := { program := "ytdelhcdknglibaa", sum := "cd77ecc83faabdd34ffa42433f3e1c0221fade382d2e6ee8c78f606d2f9287fb", func := "thole/tholelaw14.MissingMeets", spec := "missingMeets", unfollowed := true, recurses := true, apart := false }
def MissingMeetsSaid : Prop := missingMeetsRow.holds Try.pinned (OpenSpec.ofChange missingMeetsSpec)

/-- ITS FALSE NEIGHBOUR: 'it returns false'. Refute it at one input. -/
def missingMeetsWrong : ChangeSpec := { name := "missingMeets", fn := fun _ => fun
  | [d1, d2] => { results := [.lit (.bool false)], args := [d1, d2] }
  | _ => none }
def MissingMeetsWrongFalsely : Prop := missingMeetsRow.holds Try.pinned (OpenSpec.ofChange missingMeetsWrong)

/-- 'tholelaw14.MissingDiffs': WHATEVER THE INPUT: true; the input reads as it did. -/
def missingDiffsSpec : ChangeSpec := { name := "missingDiffs", fn := fun _ => fun
  | [d1, d2] => { results := [.lit (.bool true)], args := [d1, d2] }
  | _ => none }
def missingDiffsRow : OpenClaim := { program := "ytdelhcdknglibaa", sum := "cd77ecc83faabdd34ffa42433f3e1c0221fade382d2e6ee8c78f606d2f9287fb", func := "thole/tholelaw14.MissingDiffs", spec := "missingDiffs", unfollowed := true, recurses := true, apart := false }
def MissingDiffsSaid : Prop := missingDiffsRow.holds Try.pinned (OpenSpec.ofChange missingDiffsSpec)

/-- ITS FALSE NEIGHBOUR: 'it returns false'. Refute it at one input. -/
def missingDiffsWrong : ChangeSpec := { name := "missingDiffs", fn := fun _ => fun
  | [d1, d2] => { results := [.lit (.bool false)], args := [d1, d2] }
  | _ => none }
def MissingDiffsWrongFalsely : Prop := missingDiffsRow.holds Try.pinned (OpenSpec.ofChange missingDiffsWrong)

/-- 'tholelaw14.MissingWholes': WHATEVER THE INPUT: true; the input reads as it did. -/
def missingWholesSpec : ChangeSpec := { name := "missingWholes", fn := fun _ => fun
  | [d1, d2] => { results := [.lit (.bool true)], args := [d1, d2] }
  | _ => none }
def missingWholesRow : OpenClaim := { program := "ytdelhcdknglibaa", sum := "cd77ecc83faabdd34ffa42433f3e1c0221fade382d2e6ee8c78f606d2f9287fb", func := "thole/tholelaw14.MissingWholes", spec := "missingWholes", unfollowed := true, recurses := true, apart := false }
def MissingWholesSaid : Prop := missingWholesRow.holds Try.pinned (OpenSpec.ofChange missingWholesSpec)

/-- ITS FALSE NEIGHBOUR: 'it returns false'. Refute it at one input. -/
def missingWholesWrong : ChangeSpec := { name := "missingWholes", fn := fun _ => fun
  | [d1, d2] => { results := [.lit (.bool false)], args := [d1, d2] }
  | _ => none }
def MissingWholesWrongFalsely : Prop := missingWholesRow.holds Try.pinned (OpenSpec.ofChange missingWholesWrong)

/-- 'tholelaw14.MissingTurns': WHATEVER THE INPUT: true; the input reads as it did. -/
def missingTurnsSpec : ChangeSpec := { name := "missingTurns", fn := fun _ => fun
  | [d1, d2, d3] => { results := [.lit (.bool true)], args := [d1, d2, d3] }
  | _ => none }
def missingTurnsRow : OpenClaim := { program := "ytdelhcdknglibaa", sum := "cd77ecc83faabdd34ffa42433f3e1c0221fade382d2e6ee8c78f606d2f9287fb", func := "thole/tholelaw14.MissingTurns", spec := "missingTurns", unfollowed := true, recurses := true, apart := false }
def MissingTurnsSaid : Prop := missingTurnsRow.holds Try.pinned (OpenSpec.ofChange missingTurnsSpec)

/-- ITS FALSE NEIGHBOUR: 'it returns false'. Refute it at one input. -/
def missingTurnsWrong : ChangeSpec := { name := "missingTurns", fn := fun _ => fun
  | [d1, d2, d3] => { results := [.lit (.bool false)], args := [d1, d2, d3] }
  | _ => none }
def MissingTurnsWrongFalsely : Prop := missingTurnsRow.holds Try.pinned (OpenSpec.ofChange missingTurnsWrong)

/- THE SECOND FORM. 'bulk': how many values and letters a reading holds, each counted each time it is reached (what is shared counts as often as it is met; a slice's spare places count too). A statement '..UptoSaid' is the law's where the arguments, and the package variables that the reading takes, are together of bulk at most 1048576: NARROWER than '..Said'. Prove '..Said' where nothing that the law and all that it calls make is longer than what came in: it says more and counts as full. Else prove '..UptoSaid'. A law counts once. -/
mutual
def uptoBulk {H : Type} : DataW H → Nat
  | .lit (.string bytes) => bytes.length + 1
  | .lit _ => 1
  | .nil => 1
  | .ptr d => uptoBulk d + 1
  | .slice elems spare => uptoBulkAll elems + uptoBulkAll spare + 1
  | .agg parts => uptoBulkAll parts + 1
  | .iface _ d => uptoBulk d + 1
  | .map entries => uptoBulkEntries entries + 1
  | .held _ => 1
def uptoBulkAll {H : Type} : List (DataW H) → Nat
  | [] => 0
  | d :: r => uptoBulk d + uptoBulkAll r
def uptoBulkEntries {H : Type} : List (Lit × DataW H) → Nat
  | [] => 0
  | x :: r => uptoBulkEntry x + uptoBulkEntries r
def uptoBulkEntry {H : Type} : Lit × DataW H → Nat
  | (.string bytes, d) => bytes.length + uptoBulk d + 1
  | (_, d) => uptoBulk d + 1
 end
def uptoSmall : (H : Type) → List (DataW H) → Bool := fun _ ds => decide (uptoBulkAll ds ≤ 1048576)
def OpenSpec.upto (s : _root_.Go.ChangeSpec) : _root_.Go.OpenSpec := { _root_.Go.OpenSpec.ofChange s with cond := some uptoSmall }

/-- 'tholelaw14.MissingMeets', WHERE WHAT IT READS IS OF BULK AT MOST 1048576: true; the input reads as it did. -/
def missingMeetsUptoRow : OpenClaim := { program := "ytdelhcdknglibaa", sum := "cd77ecc83faabdd34ffa42433f3e1c0221fade382d2e6ee8c78f606d2f9287fb", func := "thole/tholelaw14.MissingMeets", spec := "missingMeets", unfollowed := true, recurses := true, apart := false, narrowed := true }
def MissingMeetsUptoSaid : Prop := missingMeetsUptoRow.holds Try.pinned (OpenSpec.upto missingMeetsSpec)

/-- 'tholelaw14.MissingDiffs', WHERE WHAT IT READS IS OF BULK AT MOST 1048576: true; the input reads as it did. -/
def missingDiffsUptoRow : OpenClaim := { program := "ytdelhcdknglibaa", sum := "cd77ecc83faabdd34ffa42433f3e1c0221fade382d2e6ee8c78f606d2f9287fb", func := "thole/tholelaw14.MissingDiffs", spec := "missingDiffs", unfollowed := true, recurses := true, apart := false, narrowed := true }
def MissingDiffsUptoSaid : Prop := missingDiffsUptoRow.holds Try.pinned (OpenSpec.upto missingDiffsSpec)

/-- 'tholelaw14.MissingWholes', WHERE WHAT IT READS IS OF BULK AT MOST 1048576: true; the input reads as it did. -/
def missingWholesUptoRow : OpenClaim := { program := "ytdelhcdknglibaa", sum := "cd77ecc83faabdd34ffa42433f3e1c0221fade382d2e6ee8c78f606d2f9287fb", func := "thole/tholelaw14.MissingWholes", spec := "missingWholes", unfollowed := true, recurses := true, apart := false, narrowed := true }
def MissingWholesUptoSaid : Prop := missingWholesUptoRow.holds Try.pinned (OpenSpec.upto missingWholesSpec)

/-- 'tholelaw14.MissingTurns', WHERE WHAT IT READS IS OF BULK AT MOST 1048576: true; the input reads as it did. -/
def missingTurnsUptoRow : OpenClaim := { program := "ytdelhcdknglibaa", sum := "cd77ecc83faabdd34ffa42433f3e1c0221fade382d2e6ee8c78f606d2f9287fb", func := "thole/tholelaw14.MissingTurns", spec := "missingTurns", unfollowed := true, recurses := true, apart := false, narrowed := true }
def MissingTurnsUptoSaid : Prop := missingTurnsUptoRow.holds Try.pinned (OpenSpec.upto missingTurnsSpec)

end Rows
end Go.Proofs.Ytdelhcdknglibaa
