/-
  No cell of these rows narrows 'for every input' (looked for: loops, veiled, ifaces, maps, wideKeys, modest, calm, conditions, laid).
  DERIVED. THE GIVEN ROWS OF THIS SEAT. 4 by the template 'for every input the law returns true; each argument reads behind the call as it read before'; 0 by the template 'total and deterministic' (their statements: YtmoaiokgbjkaaaaTotals.lean).
  GIVEN WITH THE SEED: the statements are not yours to turn. If you find one false, say at which input.
  Laid BY PROGRAM, IN A SANDBOX (cutbox-rows.mjs): the forced cells as the released guide's own fill.sh prints them over the translation 91bbab910ad27838… (all of the seat's roots in one cut). By AI agents, Wed Nov 11 2026. No macro, syntax, notation, axiom, sorry.
-/
import Derived.Test.YtmoaiokgbjkaaaaChecked
import GoSem.Claim
import GoSem.ClaimJoined
import GoSem.ClaimMapViews
import Derived.JoinedTies
import Derived.KernelRfl
namespace Go.Proofs.Ytmoaiokgbjkaaaa
/- THE CELL 'sum', in the pinned program and in every row, IS THE sha256 OF THE DUMP (.gsa) THAT YtmoaiokgbjkaaaaProg.lean LOADS. Nothing in Lean hashes anything: it is a label: what it is worth is what the hold of that sum in a sandbox is worth. -/
noncomputable def Try.pinned : Pinned := { name := "ytmoaiokgbjkaaaa", sum := "91bbab910ad27838fcef177ea38fa1ff1c51bb7a1c5ce1edabdcc58ecf902a4a", checked := Try.checked }
namespace Rows
def none {H : Type} : Left H := { results := [], args := [] }

/-- 'tholelaw13.PglogCompares': WHATEVER THE INPUT: true; the input reads as it did. -/
def pglogComparesSpec : ChangeSpec := { name := "pglogCompares", fn := fun _ => fun
  | [d1, d2, d3] => { results := [.lit (.bool true)], args := [d1, d2, d3] }
  | _ => none }
def pglogComparesRow : OpenClaim := { program := "ytmoaiokgbjkaaaa", sum := "91bbab910ad27838fcef177ea38fa1ff1c51bb7a1c5ce1edabdcc58ecf902a4a", func := "thole/tholelaw13.PglogCompares", spec := "pglogCompares", inPlace := ["slices.overlaps[thole/api.Last]", "slices.overlaps[thole/api.Item]"], unfollowed := true, recurses := true, apart := false }
def PglogComparesSaid : Prop := pglogComparesRow.holds Try.pinned (OpenSpec.ofChange pglogComparesSpec)

/-- ITS FALSE NEIGHBOUR: 'it returns false'. Refute it at one input. -/
def pglogComparesWrong : ChangeSpec := { name := "pglogCompares", fn := fun _ => fun
  | [d1, d2, d3] => { results := [.lit (.bool false)], args := [d1, d2, d3] }
  | _ => none }
def PglogComparesWrongFalsely : Prop := pglogComparesRow.holds Try.pinned (OpenSpec.ofChange pglogComparesWrong)

/-- 'tholelaw13.PglogTells': WHATEVER THE INPUT: true; the input reads as it did. -/
def pglogTellsSpec : ChangeSpec := { name := "pglogTells", fn := fun _ => fun
  | [d1, d2, d3] => { results := [.lit (.bool true)], args := [d1, d2, d3] }
  | _ => none }
def pglogTellsRow : OpenClaim := { program := "ytmoaiokgbjkaaaa", sum := "91bbab910ad27838fcef177ea38fa1ff1c51bb7a1c5ce1edabdcc58ecf902a4a", func := "thole/tholelaw13.PglogTells", spec := "pglogTells", inPlace := ["slices.overlaps[thole/api.Last]", "slices.overlaps[thole/api.Item]"], unfollowed := true, recurses := true, apart := false }
def PglogTellsSaid : Prop := pglogTellsRow.holds Try.pinned (OpenSpec.ofChange pglogTellsSpec)

/-- ITS FALSE NEIGHBOUR: 'it returns false'. Refute it at one input. -/
def pglogTellsWrong : ChangeSpec := { name := "pglogTells", fn := fun _ => fun
  | [d1, d2, d3] => { results := [.lit (.bool false)], args := [d1, d2, d3] }
  | _ => none }
def PglogTellsWrongFalsely : Prop := pglogTellsRow.holds Try.pinned (OpenSpec.ofChange pglogTellsWrong)

/-- 'tholelaw13.PglogAfter': WHATEVER THE INPUT: true; the input reads as it did. -/
def pglogAfterSpec : ChangeSpec := { name := "pglogAfter", fn := fun _ => fun
  | [d1, d2] => { results := [.lit (.bool true)], args := [d1, d2] }
  | _ => none }
def pglogAfterRow : OpenClaim := { program := "ytmoaiokgbjkaaaa", sum := "91bbab910ad27838fcef177ea38fa1ff1c51bb7a1c5ce1edabdcc58ecf902a4a", func := "thole/tholelaw13.PglogAfter", spec := "pglogAfter", inPlace := ["slices.overlaps[thole/api.Last]", "slices.overlaps[thole/api.Item]"], unfollowed := true, recurses := true, apart := false }
def PglogAfterSaid : Prop := pglogAfterRow.holds Try.pinned (OpenSpec.ofChange pglogAfterSpec)

/-- ITS FALSE NEIGHBOUR: 'it returns false'. Refute it at one input. -/
def pglogAfterWrong : ChangeSpec := { name := "pglogAfter", fn := fun _ => fun
  | [d1, d2] => { results := [.lit (.bool false)], args := [d1, d2] }
  | _ => none }
def PglogAfterWrongFalsely : Prop := pglogAfterRow.holds Try.pinned (OpenSpec.ofChange pglogAfterWrong)

/-- 'tholelaw13.PglogGrows': WHATEVER THE INPUT: true; the input reads as it did. -/
def pglogGrowsSpec : ChangeSpec := { name := "pglogGrows", fn := fun _ => fun
  | [d1, d2] => { results := [.lit (.bool true)], args := [d1, d2] }
  | _ => none }
def pglogGrowsRow : OpenClaim := { program := "ytmoaiokgbjkaaaa", sum := "91bbab910ad27838fcef177ea38fa1ff1c51bb7a1c5ce1edabdcc58ecf902a4a", func := "thole/tholelaw13.PglogGrows", spec := "pglogGrows", inPlace := ["slices.overlaps[thole/api.Last]", "slices.overlaps[thole/api.Item]"], unfollowed := true, recurses := true, apart := false }
def PglogGrowsSaid : Prop := pglogGrowsRow.holds Try.pinned (OpenSpec.ofChange pglogGrowsSpec)

/-- ITS FALSE NEIGHBOUR: 'it returns false'. Refute it at one input. -/
def pglogGrowsWrong : ChangeSpec := { name := "pglogGrows", fn := fun _ => fun
  | [d1, d2] => { results := [.lit (.bool false)], args := [d1, d2] }
  | _ => none }
def PglogGrowsWrongFalsely : Prop := pglogGrowsRow.holds Try.pinned (OpenSpec.ofChange pglogGrowsWrong)

/- THE SECOND FORM. 'bulk': how many values and letters a reading holds, each counted each time it is reached (what is shared counts as often as it is met; a slice's spare places count too). A statement '..UptoSaid' is the law's where the arguments, and the package variables that the reading takes, are together of bulk at most 1048576: NARROWER than '..Said'. Prove '..Said' where nothing that the law and all that it calls make is longer than what came in: it says more and counts as full. Else prove '..UptoSaid'. A law counts once. -/
mutual
def uptoBulk {H : Type} : DataW H → Nat
  | .lit (.string bytes) => bytes.length + 1
  | .lit _ => 1
  | .nil => 1
  | .ptr d => uptoBulk d + 1
  | .slice elems spare => uptoBulkAll elems + uptoBulkAll spare + 1
  | .agg parts => uptoBulkAll parts + 1
  | .iface _ d => uptoBulk d + 1
  | .map entries => uptoBulkEntries entries + 1
  | .held _ => 1
def uptoBulkAll {H : Type} : List (DataW H) → Nat
  | [] => 0
  | d :: r => uptoBulk d + uptoBulkAll r
def uptoBulkEntries {H : Type} : List (Lit × DataW H) → Nat
  | [] => 0
  | x :: r => uptoBulkEntry x + uptoBulkEntries r
def uptoBulkEntry {H : Type} : Lit × DataW H → Nat
  | (.string bytes, d) => bytes.length + uptoBulk d + 1
  | (_, d) => uptoBulk d + 1
 end
def uptoSmall : (H : Type) → List (DataW H) → Bool := fun _ ds => decide (uptoBulkAll ds ≤ 1048576)
def OpenSpec.upto (s : _root_.Go.ChangeSpec) : _root_.Go.OpenSpec := { _root_.Go.OpenSpec.ofChange s with cond := some uptoSmall }

/-- 'tholelaw13.PglogCompares', WHERE WHAT IT READS IS OF BULK AT MOST 1048576: true; the input reads as it did. -/
def pglogComparesUptoRow : OpenClaim := { program := "ytmoaiokgbjkaaaa", sum := "91bbab910ad27838fcef177ea38fa1ff1c51bb7a1c5ce1edabdcc58ecf902a4a", func := "thole/tholelaw13.PglogCompares", spec := "pglogCompares", inPlace := ["slices.overlaps[thole/api.Last]", "slices.overlaps[thole/api.Item]"], unfollowed := true, recurses := true, apart := false, narrowed := true }
def PglogComparesUptoSaid : Prop := pglogComparesUptoRow.holds Try.pinned (OpenSpec.upto pglogComparesSpec)

/-- 'tholelaw13.PglogTells', WHERE WHAT IT READS IS OF BULK AT MOST 1048576: true; the input reads as it did. -/
def pglogTellsUptoRow : OpenClaim := { program := "ytmoaiokgbjkaaaa", sum := "91bbab910ad27838fcef177ea38fa1ff1c51bb7a1c5ce1edabdcc58ecf902a4a", func := "thole/tholelaw13.PglogTells", spec := "pglogTells", inPlace := ["slices.overlaps[thole/api.Last]", "slices.overlaps[thole/api.Item]"], unfollowed := true, recurses := true, apart := false, narrowed := true }
def PglogTellsUptoSaid : Prop := pglogTellsUptoRow.holds Try.pinned (OpenSpec.upto pglogTellsSpec)

/-- 'tholelaw13.PglogAfter', WHERE WHAT IT READS IS OF BULK AT MOST 1048576: true; the input reads as it did. -/
def pglogAfterUptoRow : OpenClaim := { program := "ytmoaiokgbjkaaaa", sum := "91bbab910ad27838fcef177ea38fa1ff1c51bb7a1c5ce1edabdcc58ecf902a4a", func := "thole/tholelaw13.PglogAfter", spec := "pglogAfter", inPlace := ["slices.overlaps[thole/api.Last]", "slices.overlaps[thole/api.Item]"], unfollowed := true, recurses := true, apart := false, narrowed := true }
def PglogAfterUptoSaid : Prop := pglogAfterUptoRow.holds Try.pinned (OpenSpec.upto pglogAfterSpec)

/-- 'tholelaw13.PglogGrows', WHERE WHAT IT READS IS OF BULK AT MOST 1048576: true; the input reads as it did. -/
def pglogGrowsUptoRow : OpenClaim := { program := "ytmoaiokgbjkaaaa", sum := "91bbab910ad27838fcef177ea38fa1ff1c51bb7a1c5ce1edabdcc58ecf902a4a", func := "thole/tholelaw13.PglogGrows", spec := "pglogGrows", inPlace := ["slices.overlaps[thole/api.Last]", "slices.overlaps[thole/api.Item]"], unfollowed := true, recurses := true, apart := false, narrowed := true }
def PglogGrowsUptoSaid : Prop := pglogGrowsUptoRow.holds Try.pinned (OpenSpec.upto pglogGrowsSpec)

end Rows
end Go.Proofs.Ytmoaiokgbjkaaaa
