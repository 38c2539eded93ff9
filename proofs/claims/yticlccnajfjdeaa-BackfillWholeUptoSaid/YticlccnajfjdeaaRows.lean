/-
  No cell of these rows narrows 'for every input' (looked for: loops, veiled, ifaces, maps, wideKeys, modest, calm, conditions, laid).
  DERIVED. THE GIVEN ROWS OF THIS SEAT. 4 by the template 'for every input the law returns true; each argument reads behind the call as it read before'; 0 by the template 'total and deterministic' (their statements: YticlccnajfjdeaaTotals.lean).
  GIVEN WITH THE SEED: the statements are not yours to turn. If you find one false, say at which input.
  Laid BY PROGRAM, IN A SANDBOX (cutbox-rows.mjs): the forced cells as the released guide's own fill.sh prints them over the translation 9c0cdd12abdf5fae… (all of the seat's roots in one cut). By AI agents, Wed Nov 11 2026. No macro, syntax, notation, axiom, sorry.
-/
import Derived.Test.YticlccnajfjdeaaChecked
import GoSem.Claim
import GoSem.ClaimJoined
import GoSem.ClaimMapViews
import Derived.JoinedTies
import Derived.KernelRfl
namespace Go.Proofs.Yticlccnajfjdeaa
/- THE CELL 'sum', in the pinned program and in every row, IS THE sha256 OF THE DUMP (.gsa) THAT YticlccnajfjdeaaProg.lean LOADS. Nothing in Lean hashes anything: it is a label: what it is worth is what the hold of that sum in a sandbox is worth. -/
noncomputable def Try.pinned : Pinned := { name := "yticlccnajfjdeaa", sum := "9c0cdd12abdf5fae65b6fbc6b479a3e259c5bd93ffe3442a99adb208a9188172", checked := Try.checked }
namespace Rows
def none {H : Type} : Left H := { results := [], args := [] }

/-- 'tholelaw20.BackfillMeets': WHATEVER THE INPUT: true; the input reads as it did. -/
def backfillMeetsSpec : ChangeSpec := { name := "backfillMeets", fn := fun _ => fun
  | [d1, d2, d3] => { results := [.lit (.bool true)], args := [d1, d2, d3] }
  | _ => none }
def backfillMeetsRow : OpenClaim := { program := "yticlccnajfjdeaa", sum := "9c0cdd12abdf5fae65b6fbc6b479a3e259c5bd93ffe3442a99adb208a9188172", func := "thole/tholelaw20.BackfillMeets", spec := "backfillMeets", inPlace := ["internal/bytealg.abigen_runtime_cmpstring"], unfollowed := true, recurses := true, apart := false }
def BackfillMeetsSaid : Prop := backfillMeetsRow.holds Try.pinned (OpenSpec.ofChange backfillMeetsSpec)

/-- ITS FALSE NEIGHBOUR: 'it returns false'. Refute it at one input. -/
def backfillMeetsWrong : ChangeSpec := { name := "backfillMeets", fn := fun _ => fun
  | [d1, d2, d3] => { results := [.lit (.bool false)], args := [d1, d2, d3] }
  | _ => none }
def BackfillMeetsWrongFalsely : Prop := backfillMeetsRow.holds Try.pinned (OpenSpec.ofChange backfillMeetsWrong)

/-- 'tholelaw20.BackfillBatches': WHATEVER THE INPUT: true; the input reads as it did. -/
def backfillBatchesSpec : ChangeSpec := { name := "backfillBatches", fn := fun _ => fun
  | [d1, d2, d3] => { results := [.lit (.bool true)], args := [d1, d2, d3] }
  | _ => none }
def backfillBatchesRow : OpenClaim := { program := "yticlccnajfjdeaa", sum := "9c0cdd12abdf5fae65b6fbc6b479a3e259c5bd93ffe3442a99adb208a9188172", func := "thole/tholelaw20.BackfillBatches", spec := "backfillBatches", inPlace := ["internal/bytealg.abigen_runtime_cmpstring"], unfollowed := true, recurses := true, apart := false }
def BackfillBatchesSaid : Prop := backfillBatchesRow.holds Try.pinned (OpenSpec.ofChange backfillBatchesSpec)

/-- ITS FALSE NEIGHBOUR: 'it returns false'. Refute it at one input. -/
def backfillBatchesWrong : ChangeSpec := { name := "backfillBatches", fn := fun _ => fun
  | [d1, d2, d3] => { results := [.lit (.bool false)], args := [d1, d2, d3] }
  | _ => none }
def BackfillBatchesWrongFalsely : Prop := backfillBatchesRow.holds Try.pinned (OpenSpec.ofChange backfillBatchesWrong)

/-- 'tholelaw20.BackfillDone': WHATEVER THE INPUT: true; the input reads as it did. -/
def backfillDoneSpec : ChangeSpec := { name := "backfillDone", fn := fun _ => fun
  | [d1, d2, d3] => { results := [.lit (.bool true)], args := [d1, d2, d3] }
  | _ => none }
def backfillDoneRow : OpenClaim := { program := "yticlccnajfjdeaa", sum := "9c0cdd12abdf5fae65b6fbc6b479a3e259c5bd93ffe3442a99adb208a9188172", func := "thole/tholelaw20.BackfillDone", spec := "backfillDone", inPlace := ["internal/bytealg.abigen_runtime_cmpstring"], unfollowed := true, recurses := true, apart := false }
def BackfillDoneSaid : Prop := backfillDoneRow.holds Try.pinned (OpenSpec.ofChange backfillDoneSpec)

/-- ITS FALSE NEIGHBOUR: 'it returns false'. Refute it at one input. -/
def backfillDoneWrong : ChangeSpec := { name := "backfillDone", fn := fun _ => fun
  | [d1, d2, d3] => { results := [.lit (.bool false)], args := [d1, d2, d3] }
  | _ => none }
def BackfillDoneWrongFalsely : Prop := backfillDoneRow.holds Try.pinned (OpenSpec.ofChange backfillDoneWrong)

/-- 'tholelaw20.BackfillWhole': WHATEVER THE INPUT: true; the input reads as it did. -/
def backfillWholeSpec : ChangeSpec := { name := "backfillWhole", fn := fun _ => fun
  | [d1, d2, d3] => { results := [.lit (.bool true)], args := [d1, d2, d3] }
  | _ => none }
def backfillWholeRow : OpenClaim := { program := "yticlccnajfjdeaa", sum := "9c0cdd12abdf5fae65b6fbc6b479a3e259c5bd93ffe3442a99adb208a9188172", func := "thole/tholelaw20.BackfillWhole", spec := "backfillWhole", inPlace := ["internal/bytealg.abigen_runtime_cmpstring"], unfollowed := true, recurses := true, apart := false }
def BackfillWholeSaid : Prop := backfillWholeRow.holds Try.pinned (OpenSpec.ofChange backfillWholeSpec)

/-- ITS FALSE NEIGHBOUR: 'it returns false'. Refute it at one input. -/
def backfillWholeWrong : ChangeSpec := { name := "backfillWhole", fn := fun _ => fun
  | [d1, d2, d3] => { results := [.lit (.bool false)], args := [d1, d2, d3] }
  | _ => none }
def BackfillWholeWrongFalsely : Prop := backfillWholeRow.holds Try.pinned (OpenSpec.ofChange backfillWholeWrong)

/- THE SECOND FORM. 'bulk': how many values and letters a reading holds, each counted each time it is reached (what is shared counts as often as it is met; a slice's spare places count too). A statement '..UptoSaid' is the law's where the arguments, and the package variables that the reading takes, are together of bulk at most 1048576: NARROWER than '..Said'. Prove '..Said' where nothing that the law and all that it calls make is longer than what came in: it says more and counts as full. Else prove '..UptoSaid'. A law counts once. -/
mutual
def uptoBulk {H : Type} : DataW H → Nat
  | .lit (.string bytes) => bytes.length + 1
  | .lit _ => 1
  | .nil => 1
  | .ptr d => uptoBulk d + 1
  | .slice elems spare => uptoBulkAll elems + uptoBulkAll spare + 1
  | .agg parts => uptoBulkAll parts + 1
  | .iface _ d => uptoBulk d + 1
  | .map entries => uptoBulkEntries entries + 1
  | .held _ => 1
def uptoBulkAll {H : Type} : List (DataW H) → Nat
  | [] => 0
  | d :: r => uptoBulk d + uptoBulkAll r
def uptoBulkEntries {H : Type} : List (Lit × DataW H) → Nat
  | [] => 0
  | x :: r => uptoBulkEntry x + uptoBulkEntries r
def uptoBulkEntry {H : Type} : Lit × DataW H → Nat
  | (.string bytes, d) => bytes.length + uptoBulk d + 1
  | (_, d) => uptoBulk d + 1
 end
def uptoSmall : (H : Type) → List (DataW H) → Bool := fun _ ds => decide (uptoBulkAll ds ≤ 1048576)
def OpenSpec.upto (s : _root_.Go.ChangeSpec) : _root_.Go.OpenSpec := { _root_.Go.OpenSpec.ofChange s with cond := some uptoSmall }

/-- 'tholelaw20.BackfillMeets', WHERE WHAT IT READS IS OF BULK AT MOST 1048576: true; the input reads as it did. -/
def backfillMeetsUptoRow : OpenClaim := { program := "yticlccnajfjdeaa", sum := "9c0cdd12abdf5fae65b6fbc6b479a3e259c5bd93ffe3442a99adb208a9188172", func := "thole/tholelaw20.BackfillMeets", spec := "backfillMeets", inPlace := ["internal/bytealg.abigen_runtime_cmpstring"], unfollowed := true, recurses := true, apart := false, narrowed := true }
def BackfillMeetsUptoSaid : Prop := backfillMeetsUptoRow.holds Try.pinned (OpenSpec.upto backfillMeetsSpec)

/-- 'tholelaw20.BackfillBatches', WHERE WHAT IT READS IS OF BULK AT MOST 1048576: true; the input reads as it did. -/
def backfillBatchesUptoRow : OpenClaim := { program := "yticlccnajfjdeaa", sum := "9c0cdd12abdf5fae65b6fbc6b479a3e259c5bd93ffe3442a99adb208a9188172", func := "thole/tholelaw20.BackfillBatches", spec := "backfillBatches", inPlace := ["internal/bytealg.abigen_runtime_cmpstring"], unfollowed := true, recurses := true, apart := false, narrowed := true }
def BackfillBatchesUptoSaid : Prop := backfillBatchesUptoRow.holds Try.pinned (OpenSpec.upto backfillBatchesSpec)

/-- 'tholelaw20.BackfillDone', WHERE WHAT IT READS IS OF BULK AT MOST 1048576: true; the input reads as it did. -/
def backfillDoneUptoRow : OpenClaim := { program := "yticlccnajfjdeaa", sum := "9c0cdd12abdf5fae65b6fbc6b479a3e259c5bd93ffe3442a99adb208a9188172", func := "thole/tholelaw20.BackfillDone", spec := "backfillDone", inPlace := ["internal/bytealg.abigen_runtime_cmpstring"], unfollowed := true, recurses := true, apart := false, narrowed := true }
def BackfillDoneUptoSaid : Prop := backfillDoneUptoRow.holds Try.pinned (OpenSpec.upto backfillDoneSpec)

/-- 'tholelaw20.BackfillWhole', WHERE WHAT IT READS IS OF BULK AT MOST 1048576: true; the input reads as it did. -/
def backfillWholeUptoRow : OpenClaim := { program := "yticlccnajfjdeaa", sum := "9c0cdd12abdf5fae65b6fbc6b479a3e259c5bd93ffe3442a99adb208a9188172", func := "thole/tholelaw20.BackfillWhole", spec := "backfillWhole", inPlace := ["internal/bytealg.abigen_runtime_cmpstring"], unfollowed := true, recurses := true, apart := false, narrowed := true }
def BackfillWholeUptoSaid : Prop := backfillWholeUptoRow.holds Try.pinned (OpenSpec.upto backfillWholeSpec)

end Rows
end Go.Proofs.Yticlccnajfjdeaa
