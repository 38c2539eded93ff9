/-
  CHAPTER 24: the law of the runs, and of the sizes against the reference.
-/
import Derived.Test.YtfdojammchbboaaDoorP24zk
set_option linter.unusedVariables false
set_option linter.unusedSimpArgs false
set_option maxRecDepth 100000
namespace Go.Proofs.YtfdojammchbboaaDoor
open Go Go.RowKit Sx

theorem lives24F : m_tholelaw24_lives 2000000 = some true := by kernel_rfl

theorem loop_same {α β ρ : Type} (f : α → β) (l2 : List β) (d : β) (st : (Unit → Option ρ) → Nat → α → Unit → Option ρ) (fin : Nat → Unit → Option ρ) (r : Option ρ)
    (hs : ∀ nx c x, c < l2.length → l2.getD c d = f x → st nx c x () = nx ()) (hf : ∀ c, fin c () = r) :
    ∀ (l : List α) (c : Nat), l2.drop c = l.map f → loopL st fin l c () = r
  | [], c, h => by rw [loopL, hf]
  | x :: l, c, h => by
    have hc : c < l2.length := by
      by_cases hc : c < l2.length
      · exact hc
      · rw [List.drop_eq_nil_of_le (by omega)] at h; simp at h
    rw [List.drop_eq_getElem_cons hc, List.map_cons] at h
    rw [loopL, hs _ _ _ hc (by rw [List.getD, List.getElem?_eq_getElem hc]; exact (List.cons.inj h).1)]
    exact loop_same f l2 d st fin r hs hf l (c + 1) (List.cons.inj h).2

theorem ints_self (F : Nat) (z : List Int) (hz : Len z.length) : m_tholeref01_Ints F z z = some true := by
  simp only [m_tholeref01_Ints]
  rw [show (((z.length : Nat) : Int) != ((z.length : Nat) : Int)) = false by simp, cond_false, grd_pos _ hz]
  refine loop_same id z 0 _ _ _ (fun nx c x hc hx => ?_) (fun c => rfl) z 0 (by simp)
  rw [grd_pos _ hc, hx]
  simp

end Go.Proofs.YtfdojammchbboaaDoor
