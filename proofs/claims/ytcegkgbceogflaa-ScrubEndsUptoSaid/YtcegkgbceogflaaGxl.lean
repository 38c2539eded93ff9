/-
  Models, part 12: operations whose run a lemma tells; append of zeros, copy within one slice, a row behind a slice's end, slices.overlaps of two own slices.
-/
import Derived.Test.YtcegkgbceogflaaGxk
import Derived.Laws.Externs
import Derived.Lib.Overlaps
set_option linter.unusedVariables false
set_option linter.unusedSimpArgs false
set_option maxRecDepth 100000
namespace Sx
open Go Go.RowKit

section
variable {P : Program} {b : Frame} {n : Nat} {w0 : World} {S : Area} {R : Ending → World → Prop} {k : List Item} {env : List (Nat × Value)} {mem : List (Nat × Ent)} {ops : Array Oper}

/-- What is asked of the operation's place. -/
def locOK (n : Nat) (ops : Array Oper) (env : List (Nat × Value)) (i : Nat) : Bool :=
  dstIn n (ops.getD i default).dst && notSelect (ops.getD i default).op && ((ops.getD i default).op.operands.toList.all (knows (look env))) && (match wantedS ops (look env) (ops.getD i default) with | some b => b | none => false)

/-- One operation, whose run is told. -/
theorem GR.prim {X : Type} {i : Nat} {v : X → Value} {mem' : X → List (Nat × Ent)} {env' : X → List (Nat × Value)} (live : List Nat) (hi : Nat.blt i ops.size = true) (hloc : locOK n ops env i = true)
    (hrun : ∀ w, Sat w0 S (look mem) w → ∃ x w', (execOp (val (look env)) (ops.getD i default)).run P w = .ok (.value (v x)) w' ∧ Sat w0 S (look (mem' x)) w')
    (henv : ∀ x, envOut live (put (look env) (ops.getD i default).dst (v x)) = some (env' x))
    (h : ∀ x, GR P b n w0 S R ops (i + 1) k (env' x) (mem' x)) : GR P b n w0 S R ops i k env mem := by
  simp only [locOK, Bool.and_eq_true] at hloc
  obtain ⟨⟨⟨h1, h2⟩, h3⟩, h4⟩ := hloc
  have hlt : i < ops.size := by simpa [Nat.blt_eq] using hi
  have ho : ops[i]? = some (ops.getD i default) := by
    rw [Array.getD, dif_pos hlt, Array.getElem?_eq_getElem hlt]; rfl
  have hwt : wantedS ops (look env) (ops.getD i default) = some true := by
    cases hw : wantedS ops (look env) (ops.getD i default) with
    | none => rw [hw] at h4; simp at h4
    | some b => rw [hw] at h4; simp at h4; rw [h4]
  intro a w hf hw
  have hσ : execOp a.eval (ops.getD i default) = execOp (val (look env)) (ops.getD i default) := execOp_congr _ (fun cs b hc => by rw [hc] at h2; simp [notSelect] at h2) fun x hx => hf.eval (List.all_eq_true.1 h3 x (by simpa using hx))
  rw [show ops.size - i = (ops.size - (i + 1)) + 1 by omega, List.range'_succ, wpOpsIn_cons]
  unfold wpOpIn
  simp only [ho, wantedS_sound hf hwt, if_true]
  refine wp_in (fun c hc => by rw [hc] at h2; cases h2) ?_
  obtain ⟨x, w', hr, hs⟩ := hrun w hw
  unfold Oper.wp
  rw [hσ, hr, Oper.upon_value]
  refine h x _ w' ?_ hs
  exact (hf.put (fun t ht => by rw [ht] at h1; simpa [dstIn] using h1) (v x)).less (envOut_look live (henv x))

theorem GA.prim {X : Type} {i m : Nat} {listed : Array Bool} {v : X → Value} {mem' : X → List (Nat × Ent)} {env' : X → List (Nat × Value)} (live : List Nat)
    (hrd : (Region.ready .any ops listed == [i]) = true) (hi : Nat.blt i ops.size = true) (hloc : locOK n ops env i = true)
    (hrun : ∀ w, Sat w0 S (look mem) w → ∃ x w', (execOp (val (look env)) (ops.getD i default)).run P w = .ok (.value (v x)) w' ∧ Sat w0 S (look (mem' x)) w')
    (henv : ∀ x, envOut live (put (look env) (ops.getD i default).dst (v x)) = some (env' x))
    (h : ∀ x, GA P b n w0 S R ops m (listed.setIfInBounds i true) k (env' x) (mem' x)) : GA P b n w0 S R ops (m + 1) listed k env mem := by
  simp only [locOK, Bool.and_eq_true] at hloc
  obtain ⟨⟨⟨h1, h2⟩, h3⟩, h4⟩ := hloc
  have hlt : i < ops.size := by simpa [Nat.blt_eq] using hi
  have ho : ops[i]? = some (ops.getD i default) := by
    rw [Array.getD, dif_pos hlt, Array.getElem?_eq_getElem hlt]; rfl
  have hwt : wantedS ops (look env) (ops.getD i default) = some true := by
    cases hw : wantedS ops (look env) (ops.getD i default) with
    | none => rw [hw] at h4; simp at h4
    | some b => rw [hw] at h4; simp at h4; rw [h4]
  have hready : Region.ready .any ops listed = [i] := eq_of_beq hrd
  intro a w hf hw
  refine ⟨fun e => (by rw [hready] at e; cases e), fun j hj => ?_⟩
  rw [hready] at hj
  obtain rfl := List.mem_singleton.1 hj
  have hσ : execOp a.eval (ops.getD j default) = execOp (val (look env)) (ops.getD j default) := execOp_congr _ (fun cs b hc => by rw [hc] at h2; simp [notSelect] at h2) fun x hx => hf.eval (List.all_eq_true.1 h3 x (by simpa using hx))
  unfold wpOpIn
  simp only [ho, wantedS_sound hf hwt, if_true]
  refine wp_in (fun c hc => by rw [hc] at h2; cases h2) ?_
  obtain ⟨x, w', hr, hs⟩ := hrun w hw
  unfold Oper.wp
  rw [hσ, hr, Oper.upon_value]
  refine h x _ w' ?_ hs
  exact (hf.put (fun t ht => by rw [ht] at h1; simpa [dstIn] using h1) (v x)).less (envOut_look live (henv x))

theorem GS.setMemE {X : Type} {mem' : X → List (Nat × Ent)} (hm : ∀ w, Sat w0 S (look mem) w → ∃ x, Sat w0 S (look (mem' x)) w) (h : ∀ x, GS P b n w0 S R k env (mem' x)) : GS P b n w0 S R k env mem :=
  fun a w hf hw => (hm w hw).elim fun x hx => h x a w hf hx
end

/-! ### append of zeros -/

/-! ### copy within an own slice -/

/-! ### A row behind the end -/

/-! ### slices.overlaps -/

/-! ### Regions, in short: what they ask is shown by the way -/
section
variable {P : Program} {b : Frame} {n : Nat} {w0 : World} {S : Area} {R : Ending → World → Prop} {k : List Item} {env : List (Nat × Value)} {mem : List (Nat × Ent)} {ops : Array Oper}
end

end Sx
