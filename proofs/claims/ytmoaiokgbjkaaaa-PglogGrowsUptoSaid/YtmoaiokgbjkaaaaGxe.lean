/-
  Models, part 5: ranges over functions: frames with marks, rounds, the statement.
-/
import Derived.Test.YtmoaiokgbjkaaaaGxd
import Derived.RangeFuncRecord
import Derived.RangeFuncLeaves
set_option linter.unusedVariables false
set_option linter.unusedSimpArgs false
namespace Sx
open Go Go.RowKit

/-! ### Turning a block that is no row -/

/-! ### Marks -/

def mark (D : Nat) : Deferred := { target := .collected D, args := #[] }
section
variable {P : Program} {b : Frame} {n : Nat} {w0 : World} {S : Area} {R : Ending → World → Prop} {k : List Item} {env : List (Nat × Value)} {mem : List (Nat × Ent)}

/-! ### In a round -/

def setKey (mem : List (Nat × Ent)) (k : Nat) (e : Ent) : List (Nat × Ent) := mem.map fun p => match Nat.beq p.1 k with | true => (p.1, e) | false => p
theorem look_setKey {mem : List (Nat × Ent)} {k : Nat} {e e0 : Ent} (h : look mem k = some e0) : look (setKey mem k e) = upd (look mem) k (some e) := by
  have key : ∀ (l : List (Nat × Ent)) (t : Nat), k ≠ t → look (setKey l k e) t = look l t := by
    intro l
    induction l with
    | nil => intro t _; rfl
    | cons p l ih =>
      intro t ht
      obtain ⟨i, x⟩ := p
      simp only [setKey, List.map_cons, look]
      cases hb : Nat.beq i k with
      | true =>
        have := Nat.eq_of_beq_eq_true hb
        subst this
        have hf : Nat.beq i t = false := by
          cases hq : Nat.beq i t with
          | false => rfl
          | true => exact absurd (Nat.eq_of_beq_eq_true hq) ht
        simp only [hf]
        exact ih t ht
      | false =>
        simp only []
        cases Nat.beq i t with
        | true => rfl
        | false => exact ih t ht
  have same : ∀ (l : List (Nat × Ent)), look l k = some e0 → look (setKey l k e) k = some e := by
    intro l
    induction l with
    | nil => intro h; simp [look] at h
    | cons p l ih =>
      obtain ⟨i, x⟩ := p
      intro h
      simp only [setKey, List.map_cons, look] at h ⊢
      cases hb : Nat.beq i k with
      | true => simp only [hb]
      | false =>
        rw [hb] at h
        simp only [hb]
        exact ih h
  funext t
  by_cases ht : k = t
  · subst ht; rw [upd_same]; exact same mem h
  · rw [upd_other _ _ ht]; exact key mem t ht

end

/-! ### Calls of 'yield' -/

section
variable {P : Program} {b : Frame} {n : Nat} {w0 : World} {S : Area} {R : Ending → World → Prop} {k : List Item} {env : List (Nat × Value)} {mem : List (Nat × Ent)} {ops : Array Oper}
end

/-! ### A bag of entries -/

def bagP (es : List Ent) (w : World) : Prop := (∀ e ∈ es, e.ok w) ∧ ∀ (i j : Nat) (e e' : Ent), i ≠ j → es[i]? = some e → es[j]? = some e' → ∀ b, e.foot b → ¬ e'.foot b
theorem bagS (es : List Ent) : Stable (fun b => ∃ e ∈ es, e.foot b) (fun w => (∀ e ∈ es, e.holds w) ∧ ∀ (i j : Nat) (e e' : Ent), i ≠ j → es[i]? = some e → es[j]? = some e' → ∀ b, e.foot b → ¬ e'.foot b) :=
  fun w w' h ⟨h1, h2⟩ => ⟨fun e he => Ent.holds_of_same (fun b hb => h b ⟨e, he, hb⟩) (h1 e he), h2⟩
/-- Several own entries as one. -/
@[reducible] def bag (es : List Ent) : Ent := .say true (fun b => ∃ e ∈ es, e.foot b) _ (bagS es)
theorem bag_ok {es : List Ent} {w : World} : (bag es).ok w ↔ bagP es w :=
  ⟨fun h => ⟨fun e he => ⟨h.1.1 e he, fun b hb => h.2 b ⟨e, he, hb⟩⟩, h.1.2⟩, fun h => ⟨⟨fun e he => (h.1 e he).1, h.2⟩, fun b ⟨e, he, hb⟩ => (h.1 e he).2 b hb⟩⟩

/-! ### The statement -/

theorem look_snoc (k : Nat) (e : Ent) : ∀ (mem : List (Nat × Ent)) (t : Nat), look (mem ++ [(k, e)]) t = match look mem t with | some x => some x | none => (match Nat.beq k t with | true => some e | false => none)
  | [], t => by simp only [List.nil_append, look]; cases Nat.beq k t <;> rfl
  | (i, x) :: mem, t => by
    rw [List.cons_append, look, look]
    cases Nat.beq i t with
    | true => rfl
    | false => exact look_snoc k e mem t
theorem look_snoc_upd {mem : List (Nat × Ent)} {k : Nat} {e : Ent} (h : look mem k = none) : look (mem ++ [(k, e)]) = upd (look mem) k (some e) := by
  funext t
  rw [look_snoc]
  unfold upd
  cases hb : Nat.beq k t with
  | true =>
    have := Nat.eq_of_beq_eq_true hb
    subst this
    rw [h]
  | false => cases look mem t <;> rfl

section
variable {P : Program} {b : Frame} {n : Nat} {w0 : World} {S : Area} {R : Ending → World → Prop} {k : List Item} {env : List (Nat × Value)} {mem : List (Nat × Ent)}
end

end Sx
