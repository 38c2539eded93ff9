/-
  Models, part 12: operations whose run a lemma tells; append of zeros, copy within one slice, a row behind a slice's end, slices.overlaps of two own slices.
-/
import Derived.Test.YtjnbkhnebmlilaaGxk
import Derived.Laws.Externs
import Derived.Lib.Overlaps
set_option linter.unusedVariables false
set_option linter.unusedSimpArgs false
set_option maxRecDepth 100000
namespace Sx
open Go Go.RowKit

section
variable {P : Program} {b : Frame} {n : Nat} {w0 : World} {S : Area} {R : Ending → World → Prop} {k : List Item} {env : List (Nat × Value)} {mem : List (Nat × Ent)} {ops : Array Oper}

end

/-! ### append of zeros -/

/-! ### copy within an own slice -/

/-! ### A row behind the end -/

/-! ### slices.overlaps -/

/-! ### Regions, in short: what they ask is shown by the way -/
section
variable {P : Program} {b : Frame} {n : Nat} {w0 : World} {S : Area} {R : Ending → World → Prop} {k : List Item} {env : List (Nat × Value)} {mem : List (Nat × Ent)} {ops : Array Oper}
def fr0 : Nat → Fr := fun _ => ⟨0, none, 0, [], fun _ _ => (none, 0)⟩
theorem GS.tg {id : Nat} (env' : (Nat → Fr) → List (Nat × Value)) (mem' : (Nat → Fr) → List (Nat × Ent)) (hs : List (Nat × Hint)) (os : (Nat → Fr) → List Prop) (ho : ∀ fr, All (os fr)) (h : ∀ fr, GS P b n w0 S R k (env' fr) (mem' fr))
    (h1 : ∀ fr, symRun P n ops hs 0 ops.size ((env' fr0).map Prod.fst) ((mem' fr0).map Prod.fst) env mem fr = some (env' fr, mem' fr, os fr) := by intro fr; kernel_rfl) : GS P b n w0 S R (.code (.region id ops false) :: k) env mem :=
  GS.region (RunsTo.mk hs _ _ os h1 ho) h
theorem GS.tgM {id : Nat} (env' : (Nat → Fr) → List (Nat × Value)) (hs : List (Nat × Hint)) (os : (Nat → Fr) → List Prop) (ho : ∀ fr, All (os fr)) (h : ∀ fr, GS P b n w0 S R k (env' fr) mem)
    (h1 : ∀ fr, symRun P n ops hs 0 ops.size ((env' fr0).map Prod.fst) (mem.map Prod.fst) env mem fr = some (env' fr, mem, os fr) := by intro fr; kernel_rfl) : GS P b n w0 S R (.code (.region id ops false) :: k) env mem :=
  GS.region (mem' := fun _ => mem) (RunsTo.mk hs _ _ os h1 ho) h
theorem GS.tz {id : Nat} (env' : (Nat → Fr) → List (Nat × Value)) (mem' : (Nat → Fr) → List (Nat × Ent)) (hs : List (Nat × Hint)) (h : ∀ fr, GS P b n w0 S R k (env' fr) (mem' fr))
    (h1 : ∀ fr, symRun P n ops hs 0 ops.size ((env' fr0).map Prod.fst) ((mem' fr0).map Prod.fst) env mem fr = some (env' fr, mem' fr, []) := by intro fr; kernel_rfl) : GS P b n w0 S R (.code (.region id ops false) :: k) env mem :=
  GS.region (RunsTo.mk hs _ _ (fun _ => []) h1 (fun _ => trivial)) h
theorem GS.tzM {id : Nat} (env' : (Nat → Fr) → List (Nat × Value)) (hs : List (Nat × Hint)) (h : ∀ fr, GS P b n w0 S R k (env' fr) mem)
    (h1 : ∀ fr, symRun P n ops hs 0 ops.size ((env' fr0).map Prod.fst) (mem.map Prod.fst) env mem fr = some (env' fr, mem, []) := by intro fr; kernel_rfl) : GS P b n w0 S R (.code (.region id ops false) :: k) env mem :=
  GS.region (mem' := fun _ => mem) (RunsTo.mk hs _ _ (fun _ => []) h1 (fun _ => trivial)) h
end

end Sx
