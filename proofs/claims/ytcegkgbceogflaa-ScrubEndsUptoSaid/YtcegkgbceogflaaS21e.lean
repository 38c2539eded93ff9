/-
  CHAPTER 21: slices.SortStableFunc of fixes: it comes back, whatever they are; what it leaves is not told.
-/
import Derived.Test.YtcegkgbceogflaaM21e
import Derived.Test.YtcegkgbceogflaaW21sc
import Derived.Test.YtcegkgbceogflaaP21sc
set_option linter.unusedVariables false
set_option linter.unusedSimpArgs false
namespace Go.Proofs.Ytcegkgbceogflaa
open Go Go.RowKit Sx

theorem CallG.drop {P : Program} {g : FuncId} {args : Array Value} {X : Type} {v : X → Value} {own ro : List Ent} {es' : X → List Ent} (h : CallG P g args v own ro es') : CallG P g args v own ro (fun _ => []) :=
  fun w hg => (h w hg).mono fun e w' ⟨x, hx, ht⟩ => ⟨x, hx, ht.keep, (fun e he => by cases he), (fun e he => by cases he), fun i j e e' _ hi => by simp at hi⟩

/-- Fixes, their slices told by where they lie. -/
def fixv : Hds → List S_scrub_Fix → List S_scrub_Fix_v
  | _, [] => []
  | h, x :: l => ⟨x.Name, x.Version.Epoch, x.Version.N, x.From, ((h 0 0).1, x.To.length, (h 0 0).2)⟩ :: fixv (fun i => h (i + 1)) l
theorem fixv_rows : ∀ (h : Hds) (l : List S_scrub_Fix), nrows nR78 h l = (fixv h l).map S_scrub_Fix_v.row
  | _, [] => rfl
  | h, x :: l => by rw [nrows, fixv, List.map_cons, fixv_rows]; rfl
theorem fixv_len : ∀ (h : Hds) (l : List S_scrub_Fix), (fixv h l).length = l.length
  | _, [] => rfl
  | h, x :: l => by rw [fixv, List.length_cons, List.length_cons, fixv_len]

theorem call_ssf (ob : Option Addr) (cap : Nat) (h : Hds) (L : List S_scrub_Fix) (hl : L.length ≤ 1048576) :
    CallG Try.prog 28 #[.slice ob L.length cap, .func (.func 29) #[] #[]] (fun _ : Unit => .tuple #[]) [.osl ob cap 78 5 (nrows nR78 h L)] [] (fun _ : Unit => []) := by
  have := wq_slices_SortStableFunc___scrub_Fix_scrub_Fix_ (2 * L.length + 31) ob cap (fixv h L) (mq_sorts _ (fixv h L) (by rw [fixv_len]; exact hl) (by rw [fixv_len]; omega))
  rw [fixv_len] at this
  rw [fixv_rows]
  exact CallG.drop this
end Go.Proofs.Ytcegkgbceogflaa
