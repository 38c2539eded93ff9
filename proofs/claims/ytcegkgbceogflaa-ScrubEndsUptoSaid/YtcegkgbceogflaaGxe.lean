/-
  Models, part 5: ranges over functions: frames with marks, rounds, the statement.
-/
import Derived.Test.YtcegkgbceogflaaGxd
import Derived.RangeFuncRecord
import Derived.RangeFuncLeaves
set_option linter.unusedVariables false
set_option linter.unusedSimpArgs false
namespace Sx
open Go Go.RowKit

/-! ### Turning a block that is no row -/

/-! ### Marks -/

def mark (D : Nat) : Deferred := { target := .collected D, args := #[] }
section
variable {P : Program} {b : Frame} {n : Nat} {w0 : World} {S : Area} {R : Ending → World → Prop} {k : List Item} {env : List (Nat × Value)} {mem : List (Nat × Ent)}

/-! ### In a round -/

end

/-! ### Calls of 'yield' -/

section
variable {P : Program} {b : Frame} {n : Nat} {w0 : World} {S : Area} {R : Ending → World → Prop} {k : List Item} {env : List (Nat × Value)} {mem : List (Nat × Ent)} {ops : Array Oper}
end

/-! ### A bag of entries -/

def bagP (es : List Ent) (w : World) : Prop := (∀ e ∈ es, e.ok w) ∧ ∀ (i j : Nat) (e e' : Ent), i ≠ j → es[i]? = some e → es[j]? = some e' → ∀ b, e.foot b → ¬ e'.foot b
theorem bagS (es : List Ent) : Stable (fun b => ∃ e ∈ es, e.foot b) (fun w => (∀ e ∈ es, e.holds w) ∧ ∀ (i j : Nat) (e e' : Ent), i ≠ j → es[i]? = some e → es[j]? = some e' → ∀ b, e.foot b → ¬ e'.foot b) :=
  fun w w' h ⟨h1, h2⟩ => ⟨fun e he => Ent.holds_of_same (fun b hb => h b ⟨e, he, hb⟩) (h1 e he), h2⟩
/-- Several own entries as one. -/
@[reducible] def bag (es : List Ent) : Ent := .say true (fun b => ∃ e ∈ es, e.foot b) _ (bagS es)
theorem bag_ok {es : List Ent} {w : World} : (bag es).ok w ↔ bagP es w :=
  ⟨fun h => ⟨fun e he => ⟨h.1.1 e he, fun b hb => h.2 b ⟨e, he, hb⟩⟩, h.1.2⟩, fun h => ⟨⟨fun e he => (h.1 e he).1, h.2⟩, fun b ⟨e, he, hb⟩ => (h.1 e he).2 b hb⟩⟩

/-! ### The statement -/

theorem look_snoc (k : Nat) (e : Ent) : ∀ (mem : List (Nat × Ent)) (t : Nat), look (mem ++ [(k, e)]) t = match look mem t with | some x => some x | none => (match Nat.beq k t with | true => some e | false => none)
  | [], t => by simp only [List.nil_append, look]; cases Nat.beq k t <;> rfl
  | (i, x) :: mem, t => by
    rw [List.cons_append, look, look]
    cases Nat.beq i t with
    | true => rfl
    | false => exact look_snoc k e mem t
section
variable {P : Program} {b : Frame} {n : Nat} {w0 : World} {S : Area} {R : Ending → World → Prop} {k : List Item} {env : List (Nat × Value)} {mem : List (Nat × Ent)}
end

end Sx
