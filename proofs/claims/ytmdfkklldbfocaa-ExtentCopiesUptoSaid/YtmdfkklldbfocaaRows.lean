/-
  No cell of these rows narrows 'for every input' (looked for: loops, veiled, ifaces, maps, wideKeys, modest, calm, conditions, laid).
  DERIVED. THE GIVEN ROWS OF THIS SEAT. 5 by the template 'for every input the law returns true; each argument reads behind the call as it read before'; 0 by the template 'total and deterministic' (their statements: YtmdfkklldbfocaaTotals.lean).
  GIVEN WITH THE SEED: the statements are not yours to turn. If you find one false, say at which input.
  Laid BY PROGRAM, IN A SANDBOX (cutbox-rows.mjs): the forced cells as the released guide's own fill.sh prints them over the translation 5616be3b30ce1efa… (all of the seat's roots in one cut). By AI agents, Wed Nov 11 2026. No macro, syntax, notation, axiom, sorry.
-/
import Derived.Test.YtmdfkklldbfocaaChecked
import GoSem.Claim
import GoSem.ClaimJoined
import GoSem.ClaimMapViews
import Derived.JoinedTies
import Derived.KernelRfl
namespace Go.Proofs.Ytmdfkklldbfocaa
/- THE CELL 'sum', in the pinned program and in every row, IS THE sha256 OF THE DUMP (.gsa) THAT YtmdfkklldbfocaaProg.lean LOADS. Nothing in Lean hashes anything: it is a label: what it is worth is what the hold of that sum in a sandbox is worth. -/
noncomputable def Try.pinned : Pinned := { name := "ytmdfkklldbfocaa", sum := "5616be3b30ce1efa7cb5455c272fd563ec9904da74feef476707153a888b8a6a", checked := Try.checked }
namespace Rows
def none {H : Type} : Left H := { results := [], args := [] }

/-- 'tholelaw05.ExtentWrites': WHATEVER THE INPUT: true; the input reads as it did. -/
def extentWritesSpec : ChangeSpec := { name := "extentWrites", fn := fun _ => fun
  | [d1, d2, d3] => { results := [.lit (.bool true)], args := [d1, d2, d3] }
  | _ => none }
def extentWritesRow : OpenClaim := { program := "ytmdfkklldbfocaa", sum := "5616be3b30ce1efa7cb5455c272fd563ec9904da74feef476707153a888b8a6a", func := "thole/tholelaw05.ExtentWrites", spec := "extentWrites", unfollowed := true, recurses := true, apart := false }
def ExtentWritesSaid : Prop := extentWritesRow.holds Try.pinned (OpenSpec.ofChange extentWritesSpec)

/-- ITS FALSE NEIGHBOUR: 'it returns false'. Refute it at one input. -/
def extentWritesWrong : ChangeSpec := { name := "extentWrites", fn := fun _ => fun
  | [d1, d2, d3] => { results := [.lit (.bool false)], args := [d1, d2, d3] }
  | _ => none }
def ExtentWritesWrongFalsely : Prop := extentWritesRow.holds Try.pinned (OpenSpec.ofChange extentWritesWrong)

/-- 'tholelaw05.ExtentRuns': WHATEVER THE INPUT: true; the input reads as it did. -/
def extentRunsSpec : ChangeSpec := { name := "extentRuns", fn := fun _ => fun
  | [d] => { results := [.lit (.bool true)], args := [d] }
  | _ => none }
def extentRunsRow : OpenClaim := { program := "ytmdfkklldbfocaa", sum := "5616be3b30ce1efa7cb5455c272fd563ec9904da74feef476707153a888b8a6a", func := "thole/tholelaw05.ExtentRuns", spec := "extentRuns", unfollowed := true, recurses := true, apart := false }
def ExtentRunsSaid : Prop := extentRunsRow.holds Try.pinned (OpenSpec.ofChange extentRunsSpec)

/-- ITS FALSE NEIGHBOUR: 'it returns false'. Refute it at one input. -/
def extentRunsWrong : ChangeSpec := { name := "extentRuns", fn := fun _ => fun
  | [d] => { results := [.lit (.bool false)], args := [d] }
  | _ => none }
def ExtentRunsWrongFalsely : Prop := extentRunsRow.holds Try.pinned (OpenSpec.ofChange extentRunsWrong)

/-- 'tholelaw05.ExtentActs': WHATEVER THE INPUT: true; the input reads as it did. -/
def extentActsSpec : ChangeSpec := { name := "extentActs", fn := fun _ => fun
  | [d] => { results := [.lit (.bool true)], args := [d] }
  | _ => none }
def extentActsRow : OpenClaim := { program := "ytmdfkklldbfocaa", sum := "5616be3b30ce1efa7cb5455c272fd563ec9904da74feef476707153a888b8a6a", func := "thole/tholelaw05.ExtentActs", spec := "extentActs", unfollowed := true, recurses := true, apart := false }
def ExtentActsSaid : Prop := extentActsRow.holds Try.pinned (OpenSpec.ofChange extentActsSpec)

/-- ITS FALSE NEIGHBOUR: 'it returns false'. Refute it at one input. -/
def extentActsWrong : ChangeSpec := { name := "extentActs", fn := fun _ => fun
  | [d] => { results := [.lit (.bool false)], args := [d] }
  | _ => none }
def ExtentActsWrongFalsely : Prop := extentActsRow.holds Try.pinned (OpenSpec.ofChange extentActsWrong)

/-- 'tholelaw05.ExtentCopies': WHATEVER THE INPUT: true; the input reads as it did. -/
def extentCopiesSpec : ChangeSpec := { name := "extentCopies", fn := fun _ => fun
  | [d1, d2] => { results := [.lit (.bool true)], args := [d1, d2] }
  | _ => none }
def extentCopiesRow : OpenClaim := { program := "ytmdfkklldbfocaa", sum := "5616be3b30ce1efa7cb5455c272fd563ec9904da74feef476707153a888b8a6a", func := "thole/tholelaw05.ExtentCopies", spec := "extentCopies", unfollowed := true, recurses := true, apart := false }
def ExtentCopiesSaid : Prop := extentCopiesRow.holds Try.pinned (OpenSpec.ofChange extentCopiesSpec)

/-- ITS FALSE NEIGHBOUR: 'it returns false'. Refute it at one input. -/
def extentCopiesWrong : ChangeSpec := { name := "extentCopies", fn := fun _ => fun
  | [d1, d2] => { results := [.lit (.bool false)], args := [d1, d2] }
  | _ => none }
def ExtentCopiesWrongFalsely : Prop := extentCopiesRow.holds Try.pinned (OpenSpec.ofChange extentCopiesWrong)

/-- 'tholelaw05.ExtentNone': WHATEVER THE INPUT: true; the input reads as it did. -/
def extentNoneSpec : ChangeSpec := { name := "extentNone", fn := fun _ => fun
  | [d] => { results := [.lit (.bool true)], args := [d] }
  | _ => none }
def extentNoneRow : OpenClaim := { program := "ytmdfkklldbfocaa", sum := "5616be3b30ce1efa7cb5455c272fd563ec9904da74feef476707153a888b8a6a", func := "thole/tholelaw05.ExtentNone", spec := "extentNone", unfollowed := true, recurses := true, apart := false }
def ExtentNoneSaid : Prop := extentNoneRow.holds Try.pinned (OpenSpec.ofChange extentNoneSpec)

/-- ITS FALSE NEIGHBOUR: 'it returns false'. Refute it at one input. -/
def extentNoneWrong : ChangeSpec := { name := "extentNone", fn := fun _ => fun
  | [d] => { results := [.lit (.bool false)], args := [d] }
  | _ => none }
def ExtentNoneWrongFalsely : Prop := extentNoneRow.holds Try.pinned (OpenSpec.ofChange extentNoneWrong)

/- THE SECOND FORM. 'bulk': how many values and letters a reading holds, each counted each time it is reached (what is shared counts as often as it is met; a slice's spare places count too). A statement '..UptoSaid' is the law's where the arguments, and the package variables that the reading takes, are together of bulk at most 1048576: NARROWER than '..Said'. Prove '..Said' where nothing that the law and all that it calls make is longer than what came in: it says more and counts as full. Else prove '..UptoSaid'. A law counts once. -/
mutual
def uptoBulk {H : Type} : DataW H → Nat
  | .lit (.string bytes) => bytes.length + 1
  | .lit _ => 1
  | .nil => 1
  | .ptr d => uptoBulk d + 1
  | .slice elems spare => uptoBulkAll elems + uptoBulkAll spare + 1
  | .agg parts => uptoBulkAll parts + 1
  | .iface _ d => uptoBulk d + 1
  | .map entries => uptoBulkEntries entries + 1
  | .held _ => 1
def uptoBulkAll {H : Type} : List (DataW H) → Nat
  | [] => 0
  | d :: r => uptoBulk d + uptoBulkAll r
def uptoBulkEntries {H : Type} : List (Lit × DataW H) → Nat
  | [] => 0
  | x :: r => uptoBulkEntry x + uptoBulkEntries r
def uptoBulkEntry {H : Type} : Lit × DataW H → Nat
  | (.string bytes, d) => bytes.length + uptoBulk d + 1
  | (_, d) => uptoBulk d + 1
 end
def uptoSmall : (H : Type) → List (DataW H) → Bool := fun _ ds => decide (uptoBulkAll ds ≤ 1048576)
def OpenSpec.upto (s : _root_.Go.ChangeSpec) : _root_.Go.OpenSpec := { _root_.Go.OpenSpec.ofChange s with cond := some uptoSmall }

/-- 'tholelaw05.ExtentWrites', WHERE WHAT IT READS IS OF BULK AT MOST 1048576: true; the input reads as it did. -/
def extentWritesUptoRow : OpenClaim := { program := "ytmdfkklldbfocaa", sum := "5616be3b30ce1efa7cb5455c272fd563ec9904da74feef476707153a888b8a6a", func := "thole/tholelaw05.ExtentWrites", spec := "extentWrites", unfollowed := true, recurses := true, apart := false, narrowed := true }
def ExtentWritesUptoSaid : Prop := extentWritesUptoRow.holds Try.pinned (OpenSpec.upto extentWritesSpec)

/-- 'tholelaw05.ExtentRuns', WHERE WHAT IT READS IS OF BULK AT MOST 1048576: true; the input reads as it did. -/
def extentRunsUptoRow : OpenClaim := { program := "ytmdfkklldbfocaa", sum := "5616be3b30ce1efa7cb5455c272fd563ec9904da74feef476707153a888b8a6a", func := "thole/tholelaw05.ExtentRuns", spec := "extentRuns", unfollowed := true, recurses := true, apart := false, narrowed := true }
def ExtentRunsUptoSaid : Prop := extentRunsUptoRow.holds Try.pinned (OpenSpec.upto extentRunsSpec)

/-- 'tholelaw05.ExtentActs', WHERE WHAT IT READS IS OF BULK AT MOST 1048576: true; the input reads as it did. -/
def extentActsUptoRow : OpenClaim := { program := "ytmdfkklldbfocaa", sum := "5616be3b30ce1efa7cb5455c272fd563ec9904da74feef476707153a888b8a6a", func := "thole/tholelaw05.ExtentActs", spec := "extentActs", unfollowed := true, recurses := true, apart := false, narrowed := true }
def ExtentActsUptoSaid : Prop := extentActsUptoRow.holds Try.pinned (OpenSpec.upto extentActsSpec)

/-- 'tholelaw05.ExtentCopies', WHERE WHAT IT READS IS OF BULK AT MOST 1048576: true; the input reads as it did. -/
def extentCopiesUptoRow : OpenClaim := { program := "ytmdfkklldbfocaa", sum := "5616be3b30ce1efa7cb5455c272fd563ec9904da74feef476707153a888b8a6a", func := "thole/tholelaw05.ExtentCopies", spec := "extentCopies", unfollowed := true, recurses := true, apart := false, narrowed := true }
def ExtentCopiesUptoSaid : Prop := extentCopiesUptoRow.holds Try.pinned (OpenSpec.upto extentCopiesSpec)

/-- 'tholelaw05.ExtentNone', WHERE WHAT IT READS IS OF BULK AT MOST 1048576: true; the input reads as it did. -/
def extentNoneUptoRow : OpenClaim := { program := "ytmdfkklldbfocaa", sum := "5616be3b30ce1efa7cb5455c272fd563ec9904da74feef476707153a888b8a6a", func := "thole/tholelaw05.ExtentNone", spec := "extentNone", unfollowed := true, recurses := true, apart := false, narrowed := true }
def ExtentNoneUptoSaid : Prop := extentNoneUptoRow.holds Try.pinned (OpenSpec.upto extentNoneSpec)

end Rows
end Go.Proofs.Ytmdfkklldbfocaa
