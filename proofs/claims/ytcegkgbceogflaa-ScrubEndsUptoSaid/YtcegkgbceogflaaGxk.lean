/-
  Models, part 11: what several read at once, owned; entries that a call borrows.
-/
import Derived.Test.YtcegkgbceogflaaGxj
set_option linter.unusedVariables false
set_option linter.unusedSimpArgs false
namespace Sx
open Go Go.RowKit

/-- Entries that are read, all of them one's own. -/
@[reducible] def Ent.mine (es : List Ent) : Ent := .say true (fun b => ∃ e ∈ es, e.foot b) (fun w => ∀ e ∈ es, e.holds w) (fun _ _ h hw e he => Ent.holds_of_same (fun b hb => h b ⟨e, he, hb⟩) (hw e he))
theorem mine_all {es : List Ent} {w : World} : (Ent.mine es).ok w ↔ (Ent.all es).ok w := ⟨fun h => ⟨h.1, h.2⟩, fun h => ⟨h.1, h.2⟩⟩
theorem Cov.mine {es : List Ent} : Cov (Ent.mine es) (Ent.all es) := ⟨fun _ h => mine_all.1 h, fun _ _ _ h => h⟩
theorem RoAll.app {m : Mem} {ks : List Nat} {al : Bool} : ∀ {ro rb : List Ent}, RoAll m ks al ro → RoAll m ks al rb → RoAll m ks al (ro ++ rb)
  | [], _, _, h => h
  | _ :: _, _, ⟨h1, h2⟩, h => ⟨h1, h2.app h⟩

/-- Entries that are as they were, or one's own. -/
def SameK (m : Mem) (kb : Nat) : List (Nat × Ent) → Prop
  | [] => True
  | (t, e) :: l => (t = kb ∨ e.own = true ∨ m t = some e) ∧ SameK m kb l
theorem SameK.at {m : Mem} {kb : Nat} : ∀ {l : List (Nat × Ent)}, SameK m kb l → ∀ t e, look l t = some e → t = kb ∨ e.own = true ∨ m t = some e
  | [], _, t, e, h => by cases h
  | (t0, e0) :: l, ⟨h1, h2⟩, t, e, h => by
    unfold look at h
    split at h
    · rename_i he
      simp only [Option.some.injEq] at h
      have : t0 = t := by simpa using he
      subst this; subst h; exact h1
    · exact h2.at t e h

section
variable {P : Program} {b : Frame} {n : Nat} {w0 : World} {S : Area} {R : Ending → World → Prop} {k : List Item} {env : List (Nat × Value)} {mem : List (Nat × Ent)}

end

/-! ### A region that draws its order, with one operation that all others wait for -/

section
variable {F : Fence} {n : Nat} {P : Program} {ops : Array Oper} {Q Q' : Exit → Act → World → Prop} {md : Region.Mode}
end

/-- In the middle of a region that draws its order: m operations are still to come. -/
def GA (P : Program) (b : Frame) (n : Nat) (w0 : World) (S : Area) (R : Ending → World → Prop) (ops : Array Oper) (m : Nat) (listed : Array Bool) (k : List Item) (env : List (Nat × Value)) (mem : List (Nat × Ent)) : Prop :=
  ∀ a w, Fits n b.defers (look env) a → Sat w0 S (look mem) w → wpAnyIn (Fw b.roundOf) 0 P .any ops (fun e a' w' => e = .normal ∧ Gm P b R k a' w') m listed a w

section
variable {P : Program} {b : Frame} {n : Nat} {w0 : World} {S : Area} {R : Ending → World → Prop} {k : List Item} {env : List (Nat × Value)} {mem : List (Nat × Ent)} {ops : Array Oper} {m : Nat} {listed : Array Bool}
theorem GA.conv {env' : List (Nat × Value)} {mem' : List (Nat × Ent)} (he : env = env') (hm : mem = mem') (h : GA P b n w0 S R ops m listed k env' mem') : GA P b n w0 S R ops m listed k env mem := by
  subst he; subst hm; exact h
theorem GA.setMem {mem' : List (Nat × Ent)} (hm : ∀ w, Sat w0 S (look mem) w → Sat w0 S (look mem') w) (h : GA P b n w0 S R ops m listed k env mem') : GA P b n w0 S R ops m listed k env mem :=
  fun a w hf hw => h a w hf (hm w hw)
theorem GA.know {p : Prop} (hm : ∀ w, Sat w0 S (look mem) w → p) (h : p → GA P b n w0 S R ops m listed k env mem) : GA P b n w0 S R ops m listed k env mem :=
  fun a w hf hw => h (hm w hw) a w hf hw

theorem GA.callG {X : Type} {i : Nat} {g : FuncId} {args : Array Value} {v : X → Value} {mem' : X → List (Nat × Ent)} {env' : X → List (Nat × Value)} {own ro : List Ent} {es' : X → List Ent} (ks nk live keys : List Nat) (al : Bool)
    (hrd : (Region.ready .any ops listed == [i]) = true) (hi : Nat.blt i ops.size = true)
    (hloc : (dstIn n (ops.getD i default).dst && notSelect (ops.getD i default).op && ((ops.getD i default).op.operands.toList.all (knows (look env))) && (match wantedS ops (look env) (ops.getD i default) with | some b => b | none => false)) = true)
    (hex : runPure P (execOp (val (look env)) (ops.getD i default)) = some (.enter g args))
    (hnd : (nodupB ks && nodupB nk && own.all Ent.own) = true) (hm : ks.map (look mem) = own.map some) (hlen : ∀ x, nk.length = (es' x).length)
    (hal : al = false → ∀ x, (es' x).all Ent.own = true)
    (hr : RoAll (look mem) ks al ro)
    (hmem : ∀ x, memOut keys (setAll (dropKs (look mem) ks) nk (es' x)) = some (mem' x))
    (henv : ∀ x, envOut live (put (look env) (ops.getD i default).dst (v x)) = some (env' x))
    (hc : CallG P g args v own ro es')
    (h : ∀ x, GA P b n w0 S R ops m (listed.setIfInBounds i true) k (env' x) (mem' x)) : GA P b n w0 S R ops (m + 1) listed k env mem := by
  simp only [Bool.and_eq_true] at hloc hnd
  obtain ⟨⟨⟨h1, h2⟩, h3⟩, h4⟩ := hloc
  obtain ⟨⟨n1, n2⟩, n3⟩ := hnd
  have hlt : i < ops.size := by simpa [Nat.blt_eq] using hi
  have ho : ops[i]? = some (ops.getD i default) := by
    rw [Array.getD, dif_pos hlt, Array.getElem?_eq_getElem hlt]; rfl
  have hwt : wantedS ops (look env) (ops.getD i default) = some true := by
    cases hw : wantedS ops (look env) (ops.getD i default) with
    | none => rw [hw] at h4; simp at h4
    | some b => rw [hw] at h4; simp at h4; rw [h4]
  have hready : Region.ready .any ops listed = [i] := eq_of_beq hrd
  intro a w hf hw
  refine ⟨fun e => (by rw [hready] at e; cases e), fun j hj => ?_⟩
  rw [hready] at hj
  obtain rfl := List.mem_singleton.1 hj
  have hσ : execOp a.eval (ops.getD j default) = execOp (val (look env)) (ops.getD j default) := execOp_congr _ (fun cs b hc => by rw [hc] at h2; simp [notSelect] at h2) fun x hx => hf.eval (List.all_eq_true.1 h3 x (by simpa using hx))
  unfold wpOpIn
  simp only [ho, wantedS_sound hf hwt, if_true]
  refine wp_in (fun c hc => by rw [hc] at h2; cases h2) ?_
  unfold Oper.wp
  rw [hσ, runPure_sound _ hex w, Oper.upon_enter]
  have hg : GoodG own ro w := hw.goodG (nodupB_spec n1) hm n3 hr
  refine (hc w hg).mono fun e w' ⟨x, he, ht⟩ => ?_
  have hs := (hw.turnsG (nodupB_spec n2) hm n3 (hlen x) hr (fun ha => hal ha x) ht).less (memOut_look keys (hmem x))
  subst he
  refine h x _ w' ?_ hs
  exact (hf.put (fun t ht => by rw [ht] at h1; simpa [dstIn] using h1) (v x)).less (envOut_look live (henv x))

theorem GA.rest {i : Nat} {env' : (Nat → Fr) → List (Nat × Value)} {mem' : (Nat → Fr) → List (Nat × Ent)} (hs : List (Nat × Hint)) (live ks : List Nat) (os : (Nat → Fr) → List Prop)
    (hB : lexH .any ops (hintAt hs) m i listed = true) (hrun : ∀ fr, symRun P n ops hs i m live ks env mem fr = some (env' fr, mem' fr, os fr)) (ho : ∀ fr, All (os fr))
    (h : ∀ fr, GS P b n w0 S R k (env' fr) (mem' fr)) : GA P b n w0 S R ops m listed k env mem := by
  intro a w hf hw
  have hex : ∀ fr, ∃ s : SState, (∃ os, chainF P n ops (hintAt hs) fr (List.range' i m) ⟨look env, look mem⟩ = some (s, os) ∧ All os) ∧
      (∀ t v, look (env' fr) t = some v → s.ρ t = some v) ∧ (∀ t v, look (mem' fr) t = some v → s.m t = some v) := fun fr => by
    obtain ⟨s, hc, h2, h3⟩ := symRun_chain (hrun fr)
    exact ⟨s, ⟨os fr, hc, ho fr⟩, h2, h3⟩
  obtain ⟨sF, hsF⟩ : ∃ sF : (Nat → Fr) → SState, ∀ fr, (∃ os, chainF P n ops (hintAt hs) fr (List.range' i m) ⟨look env, look mem⟩ = some (sF fr, os) ∧ All os) ∧
      (∀ t v, look (env' fr) t = some v → (sF fr).ρ t = some v) ∧ (∀ t v, look (mem' fr) t = some v → (sF fr).m t = some v) := ⟨fun fr => Classical.choose (hex fr), fun fr => Classical.choose_spec (hex fr)⟩
  refine any_sound (hs := hintAt hs) (n := n) (w0 := w0) (S := S) m _ (fun _ => ⟨0, none, 0, [], fun _ _ => (none, 0)⟩) ⟨look env, look mem⟩ sF a _ hf hw (fun fr _ => ?_) ?_
  · obtain ⟨os, h1, h2⟩ := (hsF fr).1
    exact anyF_lex m i _ _ os hB h1 h2
  · intro fr a' w' hf' hw'
    exact ⟨rfl, h fr a' w' (hf'.less (hsF fr).2.1) (hw'.less (hsF fr).2.2)⟩

end

/-! ### Shorter texts -/

section
variable {P : Program} {b : Frame} {n : Nat} {w0 : World} {S : Area} {R : Ending → World → Prop} {k : List Item} {env : List (Nat × Value)} {mem : List (Nat × Ent)} {ops : Array Oper}
theorem GS.rg {id : Nat} (env' : (Nat → Fr) → List (Nat × Value)) (mem' : (Nat → Fr) → List (Nat × Ent)) (hs : List (Nat × Hint)) (live ks : List Nat) (os : (Nat → Fr) → List Prop)
    (h1 : ∀ fr, symRun P n ops hs 0 ops.size live ks env mem fr = some (env' fr, mem' fr, os fr)) (ho : ∀ fr, All (os fr)) (h : ∀ fr, GS P b n w0 S R k (env' fr) (mem' fr)) : GS P b n w0 S R (.code (.region id ops false) :: k) env mem :=
  GS.region (RunsTo.mk hs live ks os h1 ho) h
/-- A region that leaves what is known of memory. -/
theorem GS.rgM {id : Nat} (env' : (Nat → Fr) → List (Nat × Value)) (hs : List (Nat × Hint)) (live ks : List Nat) (os : (Nat → Fr) → List Prop)
    (h1 : ∀ fr, symRun P n ops hs 0 ops.size live ks env mem fr = some (env' fr, mem, os fr)) (ho : ∀ fr, All (os fr)) (h : ∀ fr, GS P b n w0 S R k (env' fr) mem) : GS P b n w0 S R (.code (.region id ops false) :: k) env mem :=
  GS.region (mem' := fun _ => mem) (RunsTo.mk hs live ks os h1 ho) h
/-- Regions that ask nothing. -/
theorem GS.rz {id : Nat} (env' : (Nat → Fr) → List (Nat × Value)) (mem' : (Nat → Fr) → List (Nat × Ent)) (hs : List (Nat × Hint)) (live ks : List Nat)
    (h1 : ∀ fr, symRun P n ops hs 0 ops.size live ks env mem fr = some (env' fr, mem' fr, [])) (h : ∀ fr, GS P b n w0 S R k (env' fr) (mem' fr)) : GS P b n w0 S R (.code (.region id ops false) :: k) env mem :=
  GS.region (RunsTo.mk hs live ks (fun _ => []) h1 (fun _ => trivial)) h
theorem GS.rzM {id : Nat} (env' : (Nat → Fr) → List (Nat × Value)) (hs : List (Nat × Hint)) (live ks : List Nat)
    (h1 : ∀ fr, symRun P n ops hs 0 ops.size live ks env mem fr = some (env' fr, mem, [])) (h : ∀ fr, GS P b n w0 S R k (env' fr) mem) : GS P b n w0 S R (.code (.region id ops false) :: k) env mem :=
  GS.region (mem' := fun _ => mem) (RunsTo.mk hs live ks (fun _ => []) h1 (fun _ => trivial)) h
theorem GS.rM {id : Nat} {draw : Bool} {env' : (Nat → Fr) → List (Nat × Value)} (hr : RunsTo P n ops draw 0 ops.size env mem env' (fun _ => mem))
    (h : ∀ fr, GS P b n w0 S R k (env' fr) mem) : GS P b n w0 S R (.code (.region id ops draw) :: k) env mem := GS.region hr h
theorem GR.rM {i : Nat} (g : Nat) {env' : (Nat → Fr) → List (Nat × Value)} (hg : Nat.ble (i + g) ops.size = true) (hr : RunsTo P n ops false i g env mem env' (fun _ => mem))
    (h : ∀ fr, GR P b n w0 S R ops (i + g) k (env' fr) mem) : GR P b n w0 S R ops i k env mem := GR.run g (Nat.le_of_ble_eq_true hg) hr h
theorem GR.ru {i : Nat} (g : Nat) {env' : (Nat → Fr) → List (Nat × Value)} {mem' : (Nat → Fr) → List (Nat × Ent)} (hg : Nat.ble (i + g) ops.size = true) (hr : RunsTo P n ops false i g env mem env' mem')
    (h : ∀ fr, GR P b n w0 S R ops (i + g) k (env' fr) (mem' fr)) : GR P b n w0 S R ops i k env mem := GR.run g (Nat.le_of_ble_eq_true hg) hr h
theorem GR.dn {i : Nat} (hi : Nat.ble ops.size i = true) (h : GS P b n w0 S R k env mem) : GR P b n w0 S R ops i k env mem := GR.done (Nat.le_of_ble_eq_true hi) h
end
end Sx
