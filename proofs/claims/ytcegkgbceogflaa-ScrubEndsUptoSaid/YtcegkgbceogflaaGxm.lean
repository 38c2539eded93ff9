/-
  The engine, part 19: a call that comes back in one of several forms.
-/
import Derived.Test.YtcegkgbceogflaaGxl
set_option linter.unusedVariables false
namespace Sx
open Go Go.RowKit

/-- What is read of a list's elements' slices, and of one more element's. -/
theorem nest_snocR {α : Type} {J : Hd → α → List Ent} {h : Nat → Hd} {L : List α} {g : Hd} {x : α} {es : List Ent} (he : J g x = es) : Cov (Ent.all (Ent.all (nins J h L) :: es)) (Ent.all (nins J (glueH L.length h (fun _ => g)) (L ++ [x]))) := by
  rw [← nins_app, show nins J (fun _ => g) [x] = es from by rw [nins, nins, he, List.append_nil]]
  have h1 : ∀ w, (Ent.all (Ent.all (nins J h L) :: es)).ok w → (Ent.all (nins J h L)).ok w := fun w hw => (Cov.all_mem (.head _)).1 w hw
  refine ⟨fun w hw => Ent.all_ok fun e hm => ?_, fun w hw b ⟨e, hm, hb⟩ => ?_⟩
  · rcases List.mem_append.1 hm with hm | hm
    · exact (Cov.all_mem hm).1 w (h1 w hw)
    · exact (Cov.all_mem (.tail _ hm)).1 w hw
  · rcases List.mem_append.1 hm with hm | hm
    · exact ⟨_, .head _, e, hm, hb⟩
    · exact ⟨e, .tail _ hm, hb⟩

end Sx
