/-
  Models, part 3: plain facts on loops, strings, bounds; what a law's walk closes with.
-/
import Derived.Test.YtcegkgbceogflaaGxb
set_option linter.unusedVariables false
set_option linter.unusedSimpArgs false
namespace Sx
open Go Go.RowKit

/-! ### Strings -/

theorem str_tl_inj {a b : ByteArray} (h : a.toList = b.toList) : a = b := by
  rw [ByteArray.toList_eq, ByteArray.toList_eq] at h
  obtain ⟨⟨x⟩⟩ := a
  obtain ⟨⟨y⟩⟩ := b
  simp only at h
  subst h
  rfl
theorem str_eq (a b : ByteArray) : (a == b) = (a.toList == b.toList) := by
  rw [ByteArray.toList_eq, ByteArray.toList_eq]
  obtain ⟨⟨x⟩⟩ := a
  obtain ⟨⟨y⟩⟩ := b
  show ((⟨x⟩ : Array UInt8) == ⟨y⟩) = (x == y)
  simp
theorem str_tl (a b : ByteArray) : (a.toList == b.toList) = true ↔ a = b := by
  rw [beq_iff_eq]
  exact ⟨str_tl_inj, fun h => by rw [h]⟩
theorem str_beq (a b : ByteArray) : (a == b) = true ↔ a = b := by rw [str_eq, str_tl]
/-! ### Loops -/

theorem loop_find {α ρ : Type} (p : α → Bool) (g : α → Option ρ) (fin : Nat → Unit → Option ρ) : ∀ (l : List α) (c : Nat),
    loopL (σ := Unit) (fun nx _ x _ => bif p x then g x else nx ()) fin l c () = (match l.find? p with | some x => g x | none => fin (c + l.length) ())
  | [], c => rfl
  | x :: l, c => by
    have ih := loop_find p g fin l (c + 1)
    simp only [loopL, ih, List.find?]
    cases p x with
    | true => rfl
    | false =>
      simp only [cond_false, List.length_cons]
      rw [show c + 1 + l.length = c + (l.length + 1) by omega]

/-- Does each stand behind the one ahead of it? -/
def rises {α : Type} (lt : α → α → Bool) : Option α → List α → Bool
  | _, [] => true
  | none, x :: l => rises lt (some x) l
  | some p, x :: l => lt p x && rises lt (some x) l

theorem Len.of {n : Nat} (h : n ≤ 9223372036854775807) : Len n := h
theorem App.of {n b : Nat} (h : n ≤ 33554432) (hb : b ≤ 2000000) : App n b := by
  unfold App
  calc n * (b + 1) ≤ 33554432 * (2000000 + 1) := Nat.mul_le_mul h (by omega)
    _ ≤ 70368744177664 := by decide

/-! ### The end of a law -/

def OkAll (W : World) : List Ent → Prop
  | [] => True
  | e :: r => e.ok W ∧ OkAll W r

theorem OkAll.mem {W : World} : ∀ {l : List Ent}, OkAll W l → ∀ e ∈ l, e.ok W
  | [], _, e, h => by cases h
  | a :: r, h, e, he => by
    rcases List.mem_cons.1 he with rfl | he
    · exact h.1
    · exact OkAll.mem h.2 e he

theorem CallG.law {P : Program} {g : FuncId} {args : Array Value} {ro : List Ent} (h : CallG P g args (fun _ : Unit => Value.bool true) [] ro (fun _ => [])) (W : World) (hr : OkAll W ro) :
    Calls P g args W fun e w' => e = .returned (.bool true) ∧ Keep (fun _ => False) W w' :=
  (h W ⟨(fun e he => by cases he), hr.mem, (fun i j e e' _ hi => by simp at hi), (fun e he => by cases he)⟩).mono fun e w' ⟨_, he, ht⟩ => ⟨he, ht.keep.mono fun b _ ⟨e, h1, _⟩ => by cases h1⟩

end Sx
