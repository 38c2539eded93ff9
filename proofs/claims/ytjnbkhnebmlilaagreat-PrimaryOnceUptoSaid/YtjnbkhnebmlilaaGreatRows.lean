/-
  No cell of these rows narrows 'for every input' (looked for: loops, veiled, ifaces, maps, wideKeys, modest, calm, conditions, laid).
  DERIVED. THE GIVEN ROWS OF THIS SEAT. 3 by the template 'for every input the law returns true; each argument reads behind the call as it read before'; 0 by the template 'total and deterministic' (their statements: YtjnbkhnebmlilaaGreatTotals.lean).
  GIVEN WITH THE SEED: the statements are not yours to turn. If you find one false, say at which input.
  Laid BY PROGRAM, IN A SANDBOX (cutbox-rows.mjs): the forced cells as the released guide's own fill.sh prints them over the translation 611918537e215bee… (all of the seat's roots in one cut). By AI agents, Wed Nov 11 2026. No macro, syntax, notation, axiom, sorry.
-/
import Derived.Test.YtjnbkhnebmlilaaGreatChecked
import GoSem.Claim
import GoSem.ClaimJoined
import GoSem.ClaimMapViews
import Derived.JoinedTies
import Derived.KernelRfl
namespace Go.Proofs.YtjnbkhnebmlilaaGreat
/- THE CELL 'sum', in the pinned program and in every row, IS THE sha256 OF THE DUMP (.gsa) THAT YtjnbkhnebmlilaaGreatProg.lean LOADS. Nothing in Lean hashes anything: it is a label: what it is worth is what the hold of that sum in a sandbox is worth. -/
noncomputable def Tryz.pinned : Pinned := { name := "ytjnbkhnebmlilaagreat", sum := "611918537e215beeb7aba0360404201bbcc7b7ae7d4a82b18c7a9a7594c4c0da", checked := Tryz.checked }
namespace Rows
def none {H : Type} : Left H := { results := [], args := [] }

/-- 'tholelaw18.PrimaryTakes': WHATEVER THE INPUT: true; the input reads as it did. -/
def primaryTakesSpec : ChangeSpec := { name := "primaryTakes", fn := fun _ => fun
  | [d1, d2, d3] => { results := [.lit (.bool true)], args := [d1, d2, d3] }
  | _ => none }
def primaryTakesRow : OpenClaim := { program := "ytjnbkhnebmlilaagreat", sum := "611918537e215beeb7aba0360404201bbcc7b7ae7d4a82b18c7a9a7594c4c0da", func := "thole/tholelaw18.PrimaryTakes", spec := "primaryTakes", inPlace := ["sync/atomic.AddInt64", "sync/atomic.LoadUint32", "(*internal/sync.Mutex).Lock", "internal/race.Disable", "sync/atomic.CompareAndSwapInt32", "internal/race.Enable", "internal/race.Acquire", "(*internal/sync.Mutex).lockSlow", "internal/sync.runtime_canSpin", "internal/sync.runtime_doSpin", "internal/sync.throw", "internal/sync.runtime_nanotime", "internal/sync.runtime_SemacquireMutex", "sync/atomic.AddInt32", "(*internal/sync.Mutex).Unlock", "internal/race.ReleaseMerge", "(*internal/sync.Mutex).unlockSlow", "internal/sync.fatal", "internal/sync.runtime_Semrelease", "sync/atomic.StoreUint32", "slices.overlaps[thole/api.Last]", "slices.overlaps[thole/api.Item]"], unfollowed := true, recurses := true, apart := false }
def PrimaryTakesSaid : Prop := primaryTakesRow.holds Tryz.pinned (OpenSpec.ofChange primaryTakesSpec)

/-- ITS FALSE NEIGHBOUR: 'it returns false'. Refute it at one input. -/
def primaryTakesWrong : ChangeSpec := { name := "primaryTakes", fn := fun _ => fun
  | [d1, d2, d3] => { results := [.lit (.bool false)], args := [d1, d2, d3] }
  | _ => none }
def PrimaryTakesWrongFalsely : Prop := primaryTakesRow.holds Tryz.pinned (OpenSpec.ofChange primaryTakesWrong)

/-- 'tholelaw18.PrimaryOnce': WHATEVER THE INPUT: true; the input reads as it did. -/
def primaryOnceSpec : ChangeSpec := { name := "primaryOnce", fn := fun _ => fun
  | [d1, d2] => { results := [.lit (.bool true)], args := [d1, d2] }
  | _ => none }
def primaryOnceRow : OpenClaim := { program := "ytjnbkhnebmlilaagreat", sum := "611918537e215beeb7aba0360404201bbcc7b7ae7d4a82b18c7a9a7594c4c0da", func := "thole/tholelaw18.PrimaryOnce", spec := "primaryOnce", inPlace := ["sync/atomic.AddInt64", "sync/atomic.LoadUint32", "(*internal/sync.Mutex).Lock", "internal/race.Disable", "sync/atomic.CompareAndSwapInt32", "internal/race.Enable", "internal/race.Acquire", "(*internal/sync.Mutex).lockSlow", "internal/sync.runtime_canSpin", "internal/sync.runtime_doSpin", "internal/sync.throw", "internal/sync.runtime_nanotime", "internal/sync.runtime_SemacquireMutex", "sync/atomic.AddInt32", "(*internal/sync.Mutex).Unlock", "internal/race.ReleaseMerge", "(*internal/sync.Mutex).unlockSlow", "internal/sync.fatal", "internal/sync.runtime_Semrelease", "sync/atomic.StoreUint32", "slices.overlaps[thole/api.Last]", "slices.overlaps[thole/api.Item]"], unfollowed := true, recurses := true, apart := false }
def PrimaryOnceSaid : Prop := primaryOnceRow.holds Tryz.pinned (OpenSpec.ofChange primaryOnceSpec)

/-- ITS FALSE NEIGHBOUR: 'it returns false'. Refute it at one input. -/
def primaryOnceWrong : ChangeSpec := { name := "primaryOnce", fn := fun _ => fun
  | [d1, d2] => { results := [.lit (.bool false)], args := [d1, d2] }
  | _ => none }
def PrimaryOnceWrongFalsely : Prop := primaryOnceRow.holds Tryz.pinned (OpenSpec.ofChange primaryOnceWrong)

/-- 'tholelaw18.PrimaryNone': WHATEVER THE INPUT: true; the input reads as it did. -/
def primaryNoneSpec : ChangeSpec := { name := "primaryNone", fn := fun _ => fun
  | [d] => { results := [.lit (.bool true)], args := [d] }
  | _ => none }
def primaryNoneRow : OpenClaim := { program := "ytjnbkhnebmlilaagreat", sum := "611918537e215beeb7aba0360404201bbcc7b7ae7d4a82b18c7a9a7594c4c0da", func := "thole/tholelaw18.PrimaryNone", spec := "primaryNone", inPlace := ["sync/atomic.AddInt64", "sync/atomic.LoadUint32", "(*internal/sync.Mutex).Lock", "internal/race.Disable", "sync/atomic.CompareAndSwapInt32", "internal/race.Enable", "internal/race.Acquire", "(*internal/sync.Mutex).lockSlow", "internal/sync.runtime_canSpin", "internal/sync.runtime_doSpin", "internal/sync.throw", "internal/sync.runtime_nanotime", "internal/sync.runtime_SemacquireMutex", "sync/atomic.AddInt32", "(*internal/sync.Mutex).Unlock", "internal/race.ReleaseMerge", "(*internal/sync.Mutex).unlockSlow", "internal/sync.fatal", "internal/sync.runtime_Semrelease", "sync/atomic.StoreUint32", "slices.overlaps[thole/api.Last]", "slices.overlaps[thole/api.Item]"], unfollowed := true, recurses := true, apart := false }
def PrimaryNoneSaid : Prop := primaryNoneRow.holds Tryz.pinned (OpenSpec.ofChange primaryNoneSpec)

/-- ITS FALSE NEIGHBOUR: 'it returns false'. Refute it at one input. -/
def primaryNoneWrong : ChangeSpec := { name := "primaryNone", fn := fun _ => fun
  | [d] => { results := [.lit (.bool false)], args := [d] }
  | _ => none }
def PrimaryNoneWrongFalsely : Prop := primaryNoneRow.holds Tryz.pinned (OpenSpec.ofChange primaryNoneWrong)

/- THE SECOND FORM. 'bulk': how many values and letters a reading holds, each counted each time it is reached (what is shared counts as often as it is met; a slice's spare places count too). A statement '..UptoSaid' is the law's where the arguments, and the package variables that the reading takes, are together of bulk at most 1048576: NARROWER than '..Said'. Prove '..Said' where nothing that the law and all that it calls make is longer than what came in: it says more and counts as full. Else prove '..UptoSaid'. A law counts once. -/
mutual
def uptoBulk {H : Type} : DataW H → Nat
  | .lit (.string bytes) => bytes.length + 1
  | .lit _ => 1
  | .nil => 1
  | .ptr d => uptoBulk d + 1
  | .slice elems spare => uptoBulkAll elems + uptoBulkAll spare + 1
  | .agg parts => uptoBulkAll parts + 1
  | .iface _ d => uptoBulk d + 1
  | .map entries => uptoBulkEntries entries + 1
  | .held _ => 1
def uptoBulkAll {H : Type} : List (DataW H) → Nat
  | [] => 0
  | d :: r => uptoBulk d + uptoBulkAll r
def uptoBulkEntries {H : Type} : List (Lit × DataW H) → Nat
  | [] => 0
  | x :: r => uptoBulkEntry x + uptoBulkEntries r
def uptoBulkEntry {H : Type} : Lit × DataW H → Nat
  | (.string bytes, d) => bytes.length + uptoBulk d + 1
  | (_, d) => uptoBulk d + 1
 end
def uptoSmall : (H : Type) → List (DataW H) → Bool := fun _ ds => decide (uptoBulkAll ds ≤ 1048576)
def OpenSpec.upto (s : _root_.Go.ChangeSpec) : _root_.Go.OpenSpec := { _root_.Go.OpenSpec.ofChange s with cond := some uptoSmall }

/-- 'tholelaw18.PrimaryTakes', WHERE WHAT IT READS IS OF BULK AT MOST 1048576: true; the input reads as it did. -/
def primaryTakesUptoRow : OpenClaim := { program := "ytjnbkhnebmlilaagreat", sum := "611918537e215beeb7aba0360404201bbcc7b7ae7d4a82b18c7a9a7594c4c0da", func := "thole/tholelaw18.PrimaryTakes", spec := "primaryTakes", inPlace := ["sync/atomic.AddInt64", "sync/atomic.LoadUint32", "(*internal/sync.Mutex).Lock", "internal/race.Disable", "sync/atomic.CompareAndSwapInt32", "internal/race.Enable", "internal/race.Acquire", "(*internal/sync.Mutex).lockSlow", "internal/sync.runtime_canSpin", "internal/sync.runtime_doSpin", "internal/sync.throw", "internal/sync.runtime_nanotime", "internal/sync.runtime_SemacquireMutex", "sync/atomic.AddInt32", "(*internal/sync.Mutex).Unlock", "internal/race.ReleaseMerge", "(*internal/sync.Mutex).unlockSlow", "internal/sync.fatal", "internal/sync.runtime_Semrelease", "sync/atomic.StoreUint32", "slices.overlaps[thole/api.Last]", "slices.overlaps[thole/api.Item]"], unfollowed := true, recurses := true, apart := false, narrowed := true }
def PrimaryTakesUptoSaid : Prop := primaryTakesUptoRow.holds Tryz.pinned (OpenSpec.upto primaryTakesSpec)

/-- 'tholelaw18.PrimaryOnce', WHERE WHAT IT READS IS OF BULK AT MOST 1048576: true; the input reads as it did. -/
def primaryOnceUptoRow : OpenClaim := { program := "ytjnbkhnebmlilaagreat", sum := "611918537e215beeb7aba0360404201bbcc7b7ae7d4a82b18c7a9a7594c4c0da", func := "thole/tholelaw18.PrimaryOnce", spec := "primaryOnce", inPlace := ["sync/atomic.AddInt64", "sync/atomic.LoadUint32", "(*internal/sync.Mutex).Lock", "internal/race.Disable", "sync/atomic.CompareAndSwapInt32", "internal/race.Enable", "internal/race.Acquire", "(*internal/sync.Mutex).lockSlow", "internal/sync.runtime_canSpin", "internal/sync.runtime_doSpin", "internal/sync.throw", "internal/sync.runtime_nanotime", "internal/sync.runtime_SemacquireMutex", "sync/atomic.AddInt32", "(*internal/sync.Mutex).Unlock", "internal/race.ReleaseMerge", "(*internal/sync.Mutex).unlockSlow", "internal/sync.fatal", "internal/sync.runtime_Semrelease", "sync/atomic.StoreUint32", "slices.overlaps[thole/api.Last]", "slices.overlaps[thole/api.Item]"], unfollowed := true, recurses := true, apart := false, narrowed := true }
def PrimaryOnceUptoSaid : Prop := primaryOnceUptoRow.holds Tryz.pinned (OpenSpec.upto primaryOnceSpec)

/-- 'tholelaw18.PrimaryNone', WHERE WHAT IT READS IS OF BULK AT MOST 1048576: true; the input reads as it did. -/
def primaryNoneUptoRow : OpenClaim := { program := "ytjnbkhnebmlilaagreat", sum := "611918537e215beeb7aba0360404201bbcc7b7ae7d4a82b18c7a9a7594c4c0da", func := "thole/tholelaw18.PrimaryNone", spec := "primaryNone", inPlace := ["sync/atomic.AddInt64", "sync/atomic.LoadUint32", "(*internal/sync.Mutex).Lock", "internal/race.Disable", "sync/atomic.CompareAndSwapInt32", "internal/race.Enable", "internal/race.Acquire", "(*internal/sync.Mutex).lockSlow", "internal/sync.runtime_canSpin", "internal/sync.runtime_doSpin", "internal/sync.throw", "internal/sync.runtime_nanotime", "internal/sync.runtime_SemacquireMutex", "sync/atomic.AddInt32", "(*internal/sync.Mutex).Unlock", "internal/race.ReleaseMerge", "(*internal/sync.Mutex).unlockSlow", "internal/sync.fatal", "internal/sync.runtime_Semrelease", "sync/atomic.StoreUint32", "slices.overlaps[thole/api.Last]", "slices.overlaps[thole/api.Item]"], unfollowed := true, recurses := true, apart := false, narrowed := true }
def PrimaryNoneUptoSaid : Prop := primaryNoneUptoRow.holds Tryz.pinned (OpenSpec.upto primaryNoneSpec)

end Rows
end Go.Proofs.YtjnbkhnebmlilaaGreat
