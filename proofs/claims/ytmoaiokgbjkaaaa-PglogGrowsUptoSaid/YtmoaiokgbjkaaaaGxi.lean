/-
  Models, part 9: a region that draws its order, whose last operations stand alone.
-/
import Derived.Test.YtmoaiokgbjkaaaaGxh
set_option linter.unusedVariables false
set_option linter.unusedSimpArgs false
namespace Sx
open Go Go.RowKit

section
variable {F : Fence} {n : Nat} {P : Program} {ops : Array Oper} {Q Q' : Exit → Act → World → Prop} {md : Region.Mode}

theorem wpIn_q {o : Oper} {a : Act} {w : World} {K : Act → World → Prop} (hQ : ∀ e, e ≠ .normal → ∀ a w, Q' e a w → Q e a w) (hh : o.wpIn F n P a w K Q') : o.wpIn F n P a w K Q := by
  have hl : LetsOut Q' → LetsOut Q := fun ⟨a, w, q⟩ => ⟨a, w, hQ _ (by simp) _ _ q⟩
  unfold Oper.wpIn at *
  refine ⟨hh.1, ?_⟩
  have hh := hh.2
  generalize (o.semAt F.round a.eval).run P w = r at *
  cases r with
  | ok x w' =>
    cases x <;> simp only [Oper.uponIn] at hh ⊢ <;>
      first
        | exact hh
        | exact ⟨hh.1, CallsIn.mono hh.2 (fun e w'' he => by cases e <;> first | exact he | exact hl he | exact hQ _ (by simp) _ _ he)⟩
        | exact ⟨hh.1, RoundIn.mono hh.2 (fun e w'' he => by cases e <;> first | exact he | exact hl he | exact hQ _ (by simp) _ _ he)⟩
  | halt x w' => cases x <;> simp only [Oper.uponIn] at hh ⊢ <;> first | exact hh | exact hQ _ (by simp) _ _ hh

theorem wpOpIn_q {i : Nat} {a : Act} {w : World} {K : Act → World → Prop} (hQ : ∀ e, e ≠ .normal → ∀ a w, Q' e a w → Q e a w) (hh : wpOpIn F n P ops Q' i K a w) : wpOpIn F n P ops Q i K a w := by
  unfold wpOpIn at *
  split
  · simpa [*] using hh
  · rename_i o ho
    simp only [ho] at hh
    split
    · rename_i hw; simp only [hw, if_true] at hh; exact wpIn_q hQ hh
    · rename_i hw; simp only [hw] at hh; exact hh

/-- The operations from L on, m of them, can come only when all others are done, and one behind the other. -/
def fillT : Nat → Nat → Array Bool → Array Bool
  | 0, _, l => l
  | m + 1, i, l => fillT m (i + 1) (l.setIfInBounds i true)
theorem set_comm (l : Array Bool) {i j : Nat} (h : i ≠ j) : (l.setIfInBounds i true).setIfInBounds j true = (l.setIfInBounds j true).setIfInBounds i true := by
  first
    | exact Array.setIfInBounds_comm _ _ h
    | (apply Array.ext_getElem?; intro k; simp [Array.getElem?_setIfInBounds]; split <;> split <;> simp_all)

theorem fill_comm {i : Nat} : ∀ (m L : Nat) (l : Array Bool), i < L → fillT m L (l.setIfInBounds i true) = (fillT m L l).setIfInBounds i true
  | 0, _, _, _ => rfl
  | m + 1, L, l, h => by
    unfold fillT
    rw [set_comm l (show i ≠ L by omega)]
    exact fill_comm m (L + 1) _ (by omega)

end

section
variable {P : Program} {b : Frame} {n : Nat} {w0 : World} {S : Area} {R : Ending → World → Prop} {k : List Item} {env : List (Nat × Value)} {mem : List (Nat × Ent)} {ops : Array Oper}
end
end Sx
