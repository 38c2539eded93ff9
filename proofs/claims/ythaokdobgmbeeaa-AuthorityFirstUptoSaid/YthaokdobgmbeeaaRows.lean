/-
  No cell of these rows narrows 'for every input' (looked for: loops, veiled, ifaces, maps, wideKeys, modest, calm, conditions, laid).
  DERIVED. THE GIVEN ROWS OF THIS SEAT. 4 by the template 'for every input the law returns true; each argument reads behind the call as it read before'; 0 by the template 'total and deterministic' (their statements: YthaokdobgmbeeaaTotals.lean).
  GIVEN WITH THE SEED: the statements are not yours to turn. If you find one false, say at which input.
  Laid BY PROGRAM, IN A SANDBOX (cutbox-rows.mjs): the forced cells as the released guide's own fill.sh prints them over the translation 8a6f1a09ccfdfda9… (all of the seat's roots in one cut). By AI agents, Wed Nov 11 2026. No macro, syntax, notation, axiom, sorry.
-/
import Derived.Test.YthaokdobgmbeeaaChecked
import GoSem.Claim
import GoSem.ClaimJoined
import GoSem.ClaimMapViews
import Derived.JoinedTies
import Derived.KernelRfl
namespace Go.Proofs.Ythaokdobgmbeeaa
/- THE CELL 'sum', in the pinned program and in every row, IS THE sha256 OF THE DUMP (.gsa) THAT YthaokdobgmbeeaaProg.lean LOADS. Nothing in Lean hashes anything: it is a label: what it is worth is what the hold of that sum in a sandbox is worth. -/
noncomputable def Try.pinned : Pinned := { name := "ythaokdobgmbeeaa", sum := "8a6f1a09ccfdfda99380e476431319fd40a356586c2de4bd394e2043b168964a", checked := Try.checked }
namespace Rows
def none {H : Type} : Left H := { results := [], args := [] }

/-- 'tholelaw16.AuthorityBests': WHATEVER THE INPUT: true; the input reads as it did. -/
def authorityBestsSpec : ChangeSpec := { name := "authorityBests", fn := fun _ => fun
  | [d1, d2, d3] => { results := [.lit (.bool true)], args := [d1, d2, d3] }
  | _ => none }
def authorityBestsRow : OpenClaim := { program := "ythaokdobgmbeeaa", sum := "8a6f1a09ccfdfda99380e476431319fd40a356586c2de4bd394e2043b168964a", func := "thole/tholelaw16.AuthorityBests", spec := "authorityBests", unfollowed := true, recurses := true, apart := false }
def AuthorityBestsSaid : Prop := authorityBestsRow.holds Try.pinned (OpenSpec.ofChange authorityBestsSpec)

/-- ITS FALSE NEIGHBOUR: 'it returns false'. Refute it at one input. -/
def authorityBestsWrong : ChangeSpec := { name := "authorityBests", fn := fun _ => fun
  | [d1, d2, d3] => { results := [.lit (.bool false)], args := [d1, d2, d3] }
  | _ => none }
def AuthorityBestsWrongFalsely : Prop := authorityBestsRow.holds Try.pinned (OpenSpec.ofChange authorityBestsWrong)

/-- 'tholelaw16.AuthorityOrders': WHATEVER THE INPUT: true; the input reads as it did. -/
def authorityOrdersSpec : ChangeSpec := { name := "authorityOrders", fn := fun _ => fun
  | [d1, d2, d3] => { results := [.lit (.bool true)], args := [d1, d2, d3] }
  | _ => none }
def authorityOrdersRow : OpenClaim := { program := "ythaokdobgmbeeaa", sum := "8a6f1a09ccfdfda99380e476431319fd40a356586c2de4bd394e2043b168964a", func := "thole/tholelaw16.AuthorityOrders", spec := "authorityOrders", unfollowed := true, recurses := true, apart := false }
def AuthorityOrdersSaid : Prop := authorityOrdersRow.holds Try.pinned (OpenSpec.ofChange authorityOrdersSpec)

/-- ITS FALSE NEIGHBOUR: 'it returns false'. Refute it at one input. -/
def authorityOrdersWrong : ChangeSpec := { name := "authorityOrders", fn := fun _ => fun
  | [d1, d2, d3] => { results := [.lit (.bool false)], args := [d1, d2, d3] }
  | _ => none }
def AuthorityOrdersWrongFalsely : Prop := authorityOrdersRow.holds Try.pinned (OpenSpec.ofChange authorityOrdersWrong)

/-- 'tholelaw16.AuthorityFirst': WHATEVER THE INPUT: true; the input reads as it did. -/
def authorityFirstSpec : ChangeSpec := { name := "authorityFirst", fn := fun _ => fun
  | [d1, d2, d3] => { results := [.lit (.bool true)], args := [d1, d2, d3] }
  | _ => none }
def authorityFirstRow : OpenClaim := { program := "ythaokdobgmbeeaa", sum := "8a6f1a09ccfdfda99380e476431319fd40a356586c2de4bd394e2043b168964a", func := "thole/tholelaw16.AuthorityFirst", spec := "authorityFirst", unfollowed := true, recurses := true, apart := false }
def AuthorityFirstSaid : Prop := authorityFirstRow.holds Try.pinned (OpenSpec.ofChange authorityFirstSpec)

/-- ITS FALSE NEIGHBOUR: 'it returns false'. Refute it at one input. -/
def authorityFirstWrong : ChangeSpec := { name := "authorityFirst", fn := fun _ => fun
  | [d1, d2, d3] => { results := [.lit (.bool false)], args := [d1, d2, d3] }
  | _ => none }
def AuthorityFirstWrongFalsely : Prop := authorityFirstRow.holds Try.pinned (OpenSpec.ofChange authorityFirstWrong)

/-- 'tholelaw16.AuthorityLes': WHATEVER THE INPUT: true; the input reads as it did. -/
def authorityLesSpec : ChangeSpec := { name := "authorityLes", fn := fun _ => fun
  | [d] => { results := [.lit (.bool true)], args := [d] }
  | _ => none }
def authorityLesRow : OpenClaim := { program := "ythaokdobgmbeeaa", sum := "8a6f1a09ccfdfda99380e476431319fd40a356586c2de4bd394e2043b168964a", func := "thole/tholelaw16.AuthorityLes", spec := "authorityLes", unfollowed := true, recurses := true, apart := false }
def AuthorityLesSaid : Prop := authorityLesRow.holds Try.pinned (OpenSpec.ofChange authorityLesSpec)

/-- ITS FALSE NEIGHBOUR: 'it returns false'. Refute it at one input. -/
def authorityLesWrong : ChangeSpec := { name := "authorityLes", fn := fun _ => fun
  | [d] => { results := [.lit (.bool false)], args := [d] }
  | _ => none }
def AuthorityLesWrongFalsely : Prop := authorityLesRow.holds Try.pinned (OpenSpec.ofChange authorityLesWrong)

/- THE SECOND FORM. 'bulk': how many values and letters a reading holds, each counted each time it is reached (what is shared counts as often as it is met; a slice's spare places count too). A statement '..UptoSaid' is the law's where the arguments, and the package variables that the reading takes, are together of bulk at most 1048576: NARROWER than '..Said'. Prove '..Said' where nothing that the law and all that it calls make is longer than what came in: it says more and counts as full. Else prove '..UptoSaid'. A law counts once. -/
mutual
def uptoBulk {H : Type} : DataW H → Nat
  | .lit (.string bytes) => bytes.length + 1
  | .lit _ => 1
  | .nil => 1
  | .ptr d => uptoBulk d + 1
  | .slice elems spare => uptoBulkAll elems + uptoBulkAll spare + 1
  | .agg parts => uptoBulkAll parts + 1
  | .iface _ d => uptoBulk d + 1
  | .map entries => uptoBulkEntries entries + 1
  | .held _ => 1
def uptoBulkAll {H : Type} : List (DataW H) → Nat
  | [] => 0
  | d :: r => uptoBulk d + uptoBulkAll r
def uptoBulkEntries {H : Type} : List (Lit × DataW H) → Nat
  | [] => 0
  | x :: r => uptoBulkEntry x + uptoBulkEntries r
def uptoBulkEntry {H : Type} : Lit × DataW H → Nat
  | (.string bytes, d) => bytes.length + uptoBulk d + 1
  | (_, d) => uptoBulk d + 1
 end
def uptoSmall : (H : Type) → List (DataW H) → Bool := fun _ ds => decide (uptoBulkAll ds ≤ 1048576)
def OpenSpec.upto (s : _root_.Go.ChangeSpec) : _root_.Go.OpenSpec := { _root_.Go.OpenSpec.ofChange s with cond := some uptoSmall }

/-- 'tholelaw16.AuthorityBests', WHERE WHAT IT READS IS OF BULK AT MOST 1048576: true; the input reads as it did. -/
def authorityBestsUptoRow : OpenClaim := { program := "ythaokdobgmbeeaa", sum := "8a6f1a09ccfdfda99380e476431319fd40a356586c2de4bd394e2043b168964a", func := "thole/tholelaw16.AuthorityBests", spec := "authorityBests", unfollowed := true, recurses := true, apart := false, narrowed := true }
def AuthorityBestsUptoSaid : Prop := authorityBestsUptoRow.holds Try.pinned (OpenSpec.upto authorityBestsSpec)

/-- 'tholelaw16.AuthorityOrders', WHERE WHAT IT READS IS OF BULK AT MOST 1048576: true; the input reads as it did. -/
def authorityOrdersUptoRow : OpenClaim := { program := "ythaokdobgmbeeaa", sum := "8a6f1a09ccfdfda99380e476431319fd40a356586c2de4bd394e2043b168964a", func := "thole/tholelaw16.AuthorityOrders", spec := "authorityOrders", unfollowed := true, recurses := true, apart := false, narrowed := true }
def AuthorityOrdersUptoSaid : Prop := authorityOrdersUptoRow.holds Try.pinned (OpenSpec.upto authorityOrdersSpec)

/-- 'tholelaw16.AuthorityFirst', WHERE WHAT IT READS IS OF BULK AT MOST 1048576: true; the input reads as it did. -/
def authorityFirstUptoRow : OpenClaim := { program := "ythaokdobgmbeeaa", sum := "8a6f1a09ccfdfda99380e476431319fd40a356586c2de4bd394e2043b168964a", func := "thole/tholelaw16.AuthorityFirst", spec := "authorityFirst", unfollowed := true, recurses := true, apart := false, narrowed := true }
def AuthorityFirstUptoSaid : Prop := authorityFirstUptoRow.holds Try.pinned (OpenSpec.upto authorityFirstSpec)

/-- 'tholelaw16.AuthorityLes', WHERE WHAT IT READS IS OF BULK AT MOST 1048576: true; the input reads as it did. -/
def authorityLesUptoRow : OpenClaim := { program := "ythaokdobgmbeeaa", sum := "8a6f1a09ccfdfda99380e476431319fd40a356586c2de4bd394e2043b168964a", func := "thole/tholelaw16.AuthorityLes", spec := "authorityLes", unfollowed := true, recurses := true, apart := false, narrowed := true }
def AuthorityLesUptoSaid : Prop := authorityLesUptoRow.holds Try.pinned (OpenSpec.upto authorityLesSpec)

end Rows
end Go.Proofs.Ythaokdobgmbeeaa
