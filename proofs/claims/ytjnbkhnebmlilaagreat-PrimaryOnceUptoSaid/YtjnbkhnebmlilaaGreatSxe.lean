/-
  The engine, part 5: the code round the regions: what a call comes to.
-/
import Derived.Test.YtjnbkhnebmlilaaGreatSxd
set_option linter.unusedVariables false
set_option linter.unusedSimpArgs false
namespace Sx
open Go Go.RowKit

/-- From this frame on the call, or the round, comes to an end that meets R. -/
def Gm (P : Program) (b : Frame) (R : Ending → World → Prop) (todo : List Item) (a : Act) (w : World) : Prop :=
  (b.roundOf = none → ∀ cs, ∃ e w' fr, R e w' ∧ Comes P (lone (b.atR a todo) cs w) (lone fr cs w') e ∧ fr.fn = b.fn ∧ fr.leaving P w' e) ∧
  (b.roundOf.isSome = true → ∀ c cs, ∃ v w', R (.returned v) w' ∧ Steps P (lone (b.atR a todo) (c :: cs) w) (lone (c.finish v) cs w'))

section
variable {P : Program} {b : Frame} {R : Ending → World → Prop}

theorem Gm.steps {todo todo' : List Item} {a a' : Act} {w w' : World} (h : ∀ cs, Steps P (lone (b.atR a todo) cs w) (lone (b.atR a' todo') cs w')) (hg : Gm P b R todo' a' w') : Gm P b R todo a w :=
  ⟨fun hb cs => let ⟨e, w2, fr, hR, hc, h1, h2⟩ := hg.1 hb cs; ⟨e, w2, fr, hR, Comes.of_steps (h cs) hc, h1, h2⟩,
   fun hb c cs => let ⟨v, w2, hR, hc⟩ := hg.2 hb c cs; ⟨v, w2, hR, Steps.trans (h _) hc⟩⟩
theorem Gm.step {todo todo' : List Item} {a a' : Act} {w w' : World} (h : ∀ cs, step P (lone (b.atR a todo) cs w) = .next (lone (b.atR a' todo') cs w')) (hg : Gm P b R todo' a' w') : Gm P b R todo a w :=
  Gm.steps (fun cs => .one (h cs)) hg

theorem Gm.of_wp {c : Code} {k : List Item} {a : Act} {w : World} (h : c.wpIn (Fw b.roundOf) 0 P (fun e a' w' => e = .normal ∧ Gm P b R k a' w') a w) : Gm P b R (.code c :: k) a w := by
  have key : ∀ cs, ∃ a' w', Gm P b R k a' w' ∧ Steps P (lone (b.atR a (.code c :: k)) cs w) (lone (b.atR a' k) cs w') := fun cs => by
    obtain ⟨e, a', w', ⟨rfl, hg⟩, harr⟩ := h b k cs rfl trivial (room_fw _ _)
    exact ⟨a', w', hg, steps_fw.1 harr⟩
  refine ⟨fun hb cs => ?_, fun hb c2 cs => ?_⟩
  · obtain ⟨a', w', hg, hs⟩ := key cs
    obtain ⟨e, w2, fr, hR, hc, h1, h2⟩ := hg.1 hb cs
    exact ⟨e, w2, fr, hR, Comes.of_steps hs hc, h1, h2⟩
  · obtain ⟨a', w', hg, hs⟩ := key (c2 :: cs)
    obtain ⟨v, w2, hR, hc⟩ := hg.2 hb c2 cs
    exact ⟨v, w2, hR, Steps.trans hs hc⟩

theorem Gm.ret {fn : Func} (hk : (b.kind, b.roundOf, b.defers) = (.normal, none, [])) (hf : P.funcs[b.fn]? = some fn) {k : List Item} {a : Act} {w : World} {v : Value} (hd : a.defers = b.defers)
    (hr : (results fn a.tmps).run P w = .ok v w) (hR : R (.returned v) w) : Gm P b R (.code .ret :: k) a w := by
  simp only [Prod.mk.injEq] at hk
  obtain ⟨h1, h2, h3⟩ := hk
  rw [h3] at hd
  refine ⟨fun _ cs => ?_, fun h => by rw [h2] at h; cases h⟩
  rw [Frame.atR_of_none h2]
  exact ⟨.returned v, w, _, hR, .one step_ret, rfl, rfl, hd, h1, fn, hf, hr⟩

theorem Gm.end_ {fn : Func} (hk : (b.kind, b.roundOf, b.defers) = (.normal, none, [])) (hf : P.funcs[b.fn]? = some fn) {a : Act} {w : World} {v : Value} (hd : a.defers = b.defers)
    (hr : (results fn a.tmps).run P w = .ok v w) (hR : R (.returned v) w) : Gm P b R [] a w := by
  simp only [Prod.mk.injEq] at hk
  obtain ⟨h1, h2, h3⟩ := hk
  rw [h3] at hd
  refine ⟨fun _ cs => ?_, fun h => by rw [h2] at h; cases h⟩
  rw [Frame.atR_of_none h2]
  exact ⟨.returned v, w, _, hR, .one step_end, rfl, rfl, hd, h1, fn, hf, hr⟩
end

/-- What is known at a place of the code suffices. -/
def GS (P : Program) (b : Frame) (n : Nat) (w0 : World) (S : Area) (R : Ending → World → Prop) (todo : List Item) (env : List (Nat × Value)) (mem : List (Nat × Ent)) : Prop :=
  ∀ a w, Fits n b.defers (look env) a → Sat w0 S (look mem) w → Gm P b R todo a w

def frameOf (f : FuncId) : Frame := { (default : Frame) with fn := f, kind := .normal }

def argEnv : Nat → List Value → List (Nat × Value)
  | _, [] => []
  | i, v :: r => (i, v) :: argEnv (i + 1) r

theorem look_argEnv : ∀ (l : List Value) (i t : Nat) (v : Value), look (argEnv i l) t = some v → i ≤ t ∧ l[t - i]? = some v
  | [], i, t, v, h => by simp [argEnv, look] at h
  | x :: l, i, t, v, h => by
    simp only [argEnv, look] at h
    split at h
    · rename_i hb
      have := Nat.eq_of_beq_eq_true hb
      subst this
      simp at h
      subst h
      simp
    · rename_i hb
      have := look_argEnv l (i + 1) t v h
      refine ⟨by omega, ?_⟩
      rw [show t - i = (t - (i + 1)) + 1 by omega, List.getElem?_cons_succ]
      exact this.2

theorem GS.start {P : Program} {f : FuncId} {fn : Func} {c : Code} {args : List Value} {w : World} {R : Ending → World → Prop} {S : Area} {mem : List (Nat × Ent)} {n : Nat}
    (hf : P.funcs[f]? = some fn) (hb : fn.body = some c) (hn : fn.ntmps = n) (hle : args.length ≤ n) (hs : Sat w S (look mem) w)
    (h : GS P (frameOf f) n w S R [.code c] (argEnv 0 args) mem) : Calls P f args.toArray w R := by
  intro cs
  have henter : Frame.enter P f args.toArray .normal = (frameOf f).atR { tmps := args.toArray ++ Array.replicate (n - args.length) undef, defers := [] } [.code c] := by
    simp [Frame.enter, Frame.atR, hf, hb, hn, frameOf]
    rfl
  rw [henter]
  refine (h _ w ⟨by simp; omega, rfl, fun t v ht => ?_⟩ hs).1 rfl cs
  have := (look_argEnv args 0 t v ht).2
  simp only [Nat.sub_zero] at this
  have hlt : t < args.length := by
    rcases Nat.lt_or_ge t args.length with h' | h'
    · exact h'
    · rw [List.getElem?_eq_none h'] at this; cases this
  rw [List.getElem?_eq_getElem hlt] at this
  rw [Array.getElem?_append]
  simpa [hlt] using this

section
variable {P : Program} {b : Frame} {n : Nat} {w0 : World} {S : Area} {R : Ending → World → Prop} {k : List Item} {env : List (Nat × Value)} {mem : List (Nat × Ent)}

theorem GS.seq {x y : Code} (h : GS P b n w0 S R (.code x :: .code y :: k) env mem) : GS P b n w0 S R (.code (.seq x y) :: k) env mem :=
  fun a w hf hw => .step (fun _ => stepR_seq) (h a w hf hw)
theorem GS.skip (h : GS P b n w0 S R k env mem) : GS P b n w0 S R (.code .skip :: k) env mem :=
  fun a w hf hw => .step (fun _ => stepR_skip) (h a w hf hw)
theorem GS.inBlock {id : Nat} (h : GS P b n w0 S R k env mem) : GS P b n w0 S R (.inBlock id :: k) env mem :=
  fun a w hf hw => .step (fun _ => stepR_inBlock) (h a w hf hw)
theorem GS.block {id : Nat} {c : Code} (h : GS P b n w0 S R (.code c :: .inBlock id :: k) env mem) : GS P b n w0 S R (.code (.block id c) :: k) env mem :=
  fun a w hf hw => .step (fun _ => stepR_block) (h a w hf hw)
theorem GS.exit {id : Nat} {k' : List Item} (hk : exitTo id k = some k') (h : GS P b n w0 S R k' env mem) : GS P b n w0 S R (.code (.exit id) :: k) env mem :=
  fun a w hf hw => .step (fun _ => stepR_exit hk) (h a w hf hw)
theorem GS.loop {c : Code} (h : GS P b n w0 S R (.code c :: .inLoop c :: k) env mem) : GS P b n w0 S R (.code (.loop c) :: k) env mem :=
  fun a w hf hw => .step (fun _ => stepR_loop) (h a w hf hw)
theorem GS.inLoop {c : Code} (h : GS P b n w0 S R (.code c :: .inLoop c :: k) env mem) : GS P b n w0 S R (.inLoop c :: k) env mem :=
  fun a w hf hw => .step (fun _ => stepR_inLoop) (h a w hf hw)

theorem GS.cond {c : Operand} {x y : Code} {t : Bool} (hkn : knows (look env) c = true) (hc : val (look env) c = .bool t)
    (ht : t = true → GS P b n w0 S R (.code x :: k) env mem) (hf : t = false → GS P b n w0 S R (.code y :: k) env mem) : GS P b n w0 S R (.code (.cond c x y) :: k) env mem := by
  intro a w hfit hw
  have he : a.eval c = .bool t := by rw [hfit.eval hkn, hc]
  cases t with
  | true => exact .step (fun _ => stepR_cond he) (ht rfl a w hfit hw)
  | false => exact .step (fun _ => stepR_cond he) (hf rfl a w hfit hw)

/-- A loop, by what holds at its head and a number that goes down. The head: behind 'inLoop'. -/
theorem GS.loopInv {ι : Type} (I : ι → Prop) (μ : ι → Nat) (E : ι → List (Nat × Value)) (M : ι → List (Nat × Ent)) {todo : List Item}
    (round : ∀ x, I x → (∀ y, I y → μ y < μ x → GS P b n w0 S R todo (E y) (M y)) → GS P b n w0 S R todo (E x) (M x)) :
    ∀ x, I x → GS P b n w0 S R todo (E x) (M x) := by
  have key : ∀ m x, μ x = m → I x → GS P b n w0 S R todo (E x) (M x) := by
    intro m
    induction m using Nat.strongRecOn with
    | _ m ih => exact fun x hm hI => round x hI fun y hy hlt => ih (μ y) (hm ▸ hlt) y rfl hy
  exact fun x hI => key _ x rfl hI

/-- Ways that meet again behind a piece of code: what holds where they meet. -/
theorem GS.cut {ι : Type} (I : ι → Prop) (E : ι → List (Nat × Value)) (M : ι → List (Nat × Ent)) {it : Item}
    (h2 : ∀ x, I x → GS P b n w0 S R k (E x) (M x)) (h1 : (∀ x, I x → GS P b n w0 S R k (E x) (M x)) → GS P b n w0 S R (it :: k) env mem) : GS P b n w0 S R (it :: k) env mem := h1 h2

/-- What is known, spelt otherwise, or less of it. -/
theorem GS.less {env' : List (Nat × Value)} {mem' : List (Nat × Ent)} (he : ∀ t v, look env' t = some v → look env t = some v) (hm : ∀ w, Sat w0 S (look mem) w → Sat w0 S (look mem') w)
    (h : GS P b n w0 S R k env' mem') : GS P b n w0 S R k env mem :=
  fun a w hf hw => h a w ⟨hf.size, hf.defers, fun t v ht => hf.slot t v (he t v ht)⟩ (hm w hw)

theorem GS.conv {env' : List (Nat × Value)} {mem' : List (Nat × Ent)} (he : env = env') (hm : mem = mem') (h : GS P b n w0 S R k env' mem') : GS P b n w0 S R k env mem := by
  subst he; subst hm; exact h

theorem GS.setMem {mem' : List (Nat × Ent)} (hm : ∀ w, Sat w0 S (look mem) w → Sat w0 S (look mem') w) (h : GS P b n w0 S R k env mem') : GS P b n w0 S R k env mem :=
  fun a w hf hw => h a w hf (hm w hw)

/-- A fact that the memory tells. -/
theorem GS.know {p : Prop} (hm : ∀ w, Sat w0 S (look mem) w → p) (h : p → GS P b n w0 S R k env mem) : GS P b n w0 S R k env mem :=
  fun a w hf hw => h (hm w hw) a w hf hw
end

/-! ### A region -/

def envOut (live : List Nat) (ρ : Env) : Option (List (Nat × Value)) :=
  match live with
  | [] => some []
  | t :: r => match ρ t, envOut r ρ with
    | some v, some l => some ((t, v) :: l)
    | _, _ => none

def memOut (ks : List Nat) (m : Mem) : Option (List (Nat × Ent)) :=
  match ks with
  | [] => some []
  | t :: r => match m t, memOut r m with
    | some v, some l => some ((t, v) :: l)
    | _, _ => none

theorem envOut_look : ∀ (live : List Nat) {ρ : Env} {env : List (Nat × Value)}, envOut live ρ = some env → ∀ t v, look env t = some v → ρ t = some v
  | [], ρ, env, h, t, v, ht => by simp [envOut] at h; subst h; simp [look] at ht
  | q :: r, ρ, env, h, t, v, ht => by
    unfold envOut at h
    split at h <;> simp at h
    rename_i u l hu hl
    subst h
    simp only [look] at ht
    split at ht
    · rename_i hb; have := Nat.eq_of_beq_eq_true hb; subst this; rw [hu]; exact ht
    · exact envOut_look r hl t v ht

theorem memOut_look : ∀ (live : List Nat) {m : Mem} {env : List (Nat × Ent)}, memOut live m = some env → ∀ t v, look env t = some v → m t = some v
  | [], ρ, env, h, t, v, ht => by simp [memOut] at h; subst h; simp [look] at ht
  | q :: r, ρ, env, h, t, v, ht => by
    unfold memOut at h
    split at h <;> simp at h
    rename_i u l hu hl
    subst h
    simp only [look] at ht
    split at ht
    · rename_i hb; have := Nat.eq_of_beq_eq_true hb; subst this; rw [hu]; exact ht
    · exact memOut_look r hl t v ht

theorem GS.trim {P : Program} {b : Frame} {n : Nat} {w0 : World} {S : Area} {R : Ending → World → Prop} {k : List Item} {env env' : List (Nat × Value)} {mem mem' : List (Nat × Ent)} (live ks : List Nat)
    (he : envOut live (look env) = some env') (hm : memOut ks (look mem) = some mem') (h : GS P b n w0 S R k env' mem') : GS P b n w0 S R k env mem :=
  GS.less (envOut_look live he) (fun _ hs => hs.less (memOut_look ks hm)) h

def hintAt (hs : List (Nat × Hint)) (i : Nat) : Hint := (look hs i).getD {}

/-- The operations i .. i + g - 1 of a region, run; of what comes out the slots 'live' and the entries 'ks'. -/
def symRun (P : Program) (n : Nat) (ops : Array Oper) (hs : List (Nat × Hint)) (i g : Nat) (live ks : List Nat) (env : List (Nat × Value)) (mem : List (Nat × Ent)) (fr : Nat → Fr) :
    Option (List (Nat × Value) × List (Nat × Ent) × List Prop) :=
  match chainF P n ops (hintAt hs) fr (List.range' i g) ⟨look env, look mem⟩ with
  | none => none
  | some (s, os) => match envOut live s.ρ, memOut ks s.m with
    | some e, some m => some (e, m, os)
    | _, _ => none

/-- A way to run the operations i .. i + g - 1 that comes to env', mem'. -/
def RunsTo (P : Program) (n : Nat) (ops : Array Oper) (draw : Bool) (i g : Nat) (env : List (Nat × Value)) (mem : List (Nat × Ent)) (env' : (Nat → Fr) → List (Nat × Value)) (mem' : (Nat → Fr) → List (Nat × Ent)) : Prop :=
  ∃ (hs : List (Nat × Hint)) (live ks : List Nat), (draw = true → P.follows .mixedOrders = true ∧ lexH .any ops (hintAt hs) ops.size 0 (Array.replicate ops.size false) = true) ∧
    ∀ fr, ∃ os, symRun P n ops hs i g live ks env mem fr = some (env' fr, mem' fr, os) ∧ All os

theorem RunsTo.mk {P : Program} {n : Nat} {ops : Array Oper} {i g : Nat} {env : List (Nat × Value)} {mem : List (Nat × Ent)} {env' : (Nat → Fr) → List (Nat × Value)} {mem' : (Nat → Fr) → List (Nat × Ent)}
    (hs : List (Nat × Hint)) (live ks : List Nat) (os : (Nat → Fr) → List Prop) (h : ∀ fr, symRun P n ops hs i g live ks env mem fr = some (env' fr, mem' fr, os fr)) (ho : ∀ fr, All (os fr)) :
    RunsTo P n ops false i g env mem env' mem' := ⟨hs, live, ks, (fun h => by cases h), fun fr => ⟨os fr, h fr, ho fr⟩⟩

theorem RunsTo.mkd {P : Program} {n : Nat} {ops : Array Oper} {i g : Nat} {env : List (Nat × Value)} {mem : List (Nat × Ent)} {env' : (Nat → Fr) → List (Nat × Value)} {mem' : (Nat → Fr) → List (Nat × Ent)}
    (hs : List (Nat × Hint)) (live ks : List Nat) (os : (Nat → Fr) → List Prop) (hm : P.follows .mixedOrders = true) (hB : lexH .any ops (hintAt hs) ops.size 0 (Array.replicate ops.size false) = true)
    (h : ∀ fr, symRun P n ops hs i g live ks env mem fr = some (env' fr, mem' fr, os fr)) (ho : ∀ fr, All (os fr)) :
    RunsTo P n ops true i g env mem env' mem' := ⟨hs, live, ks, fun _ => ⟨hm, hB⟩, fun fr => ⟨os fr, h fr, ho fr⟩⟩

theorem symRun_chain {P : Program} {n : Nat} {ops : Array Oper} {hs : List (Nat × Hint)} {i g : Nat} {live ks : List Nat} {env : List (Nat × Value)} {mem : List (Nat × Ent)} {fr : Nat → Fr}
    {e : List (Nat × Value)} {m : List (Nat × Ent)} {os : List Prop} (h : symRun P n ops hs i g live ks env mem fr = some (e, m, os)) :
    ∃ s, chainF P n ops (hintAt hs) fr (List.range' i g) ⟨look env, look mem⟩ = some (s, os) ∧ (∀ t v, look e t = some v → s.ρ t = some v) ∧ (∀ t v, look m t = some v → s.m t = some v) := by
  unfold symRun at h
  split at h
  · simp at h
  · rename_i s os' hc
    split at h <;> simp at h
    rename_i e' m' he hm
    obtain ⟨rfl, rfl, rfl⟩ := h
    exact ⟨s, hc, envOut_look live he, memOut_look ks hm⟩

theorem Fits.less {n : Nat} {ds : List Deferred} {ρ ρ' : Env} {a : Act} (h : Fits n ds ρ a) (hl : ∀ t v, ρ' t = some v → ρ t = some v) : Fits n ds ρ' a := ⟨h.size, h.defers, fun t v ht => h.slot t v (hl t v ht)⟩

/-- In the middle of a region: the operations from i on are still to come. -/
def GR (P : Program) (b : Frame) (n : Nat) (w0 : World) (S : Area) (R : Ending → World → Prop) (ops : Array Oper) (i : Nat) (k : List Item) (env : List (Nat × Value)) (mem : List (Nat × Ent)) : Prop :=
  ∀ a w, Fits n b.defers (look env) a → Sat w0 S (look mem) w → wpOpsIn (Fw b.roundOf) 0 P ops (fun e a' w' => e = .normal ∧ Gm P b R k a' w') (List.range' i (ops.size - i)) a w

section
variable {P : Program} {b : Frame} {n : Nat} {w0 : World} {S : Area} {R : Ending → World → Prop} {k : List Item} {env : List (Nat × Value)} {mem : List (Nat × Ent)} {ops : Array Oper}

/-- The state that a run comes to, for each choice of names. -/
theorem RunsTo.states {draw : Bool} {i g : Nat} {env' : (Nat → Fr) → List (Nat × Value)} {mem' : (Nat → Fr) → List (Nat × Ent)} (h : RunsTo P n ops draw i g env mem env' mem') :
    ∃ (hs : List (Nat × Hint)) (sF : (Nat → Fr) → SState), (draw = true → P.follows .mixedOrders = true ∧ lexH .any ops (hintAt hs) ops.size 0 (Array.replicate ops.size false) = true) ∧
      ∀ fr, (∃ os, chainF P n ops (hintAt hs) fr (List.range' i g) ⟨look env, look mem⟩ = some (sF fr, os) ∧ All os) ∧
        (∀ t v, look (env' fr) t = some v → (sF fr).ρ t = some v) ∧ (∀ t v, look (mem' fr) t = some v → (sF fr).m t = some v) := by
  obtain ⟨hs, live, ks, hd, hrun⟩ := h
  have hex : ∀ fr, ∃ s : SState, (∃ os, chainF P n ops (hintAt hs) fr (List.range' i g) ⟨look env, look mem⟩ = some (s, os) ∧ All os) ∧
        (∀ t v, look (env' fr) t = some v → s.ρ t = some v) ∧ (∀ t v, look (mem' fr) t = some v → s.m t = some v) := fun fr => by
    obtain ⟨os, h1, ho⟩ := hrun fr
    obtain ⟨s, hc, h2, h3⟩ := symRun_chain h1
    exact ⟨s, ⟨os, hc, ho⟩, h2, h3⟩
  exact ⟨hs, fun fr => Classical.choose (hex fr), hd, fun fr => Classical.choose_spec (hex fr)⟩

theorem GR.run {i : Nat} (g : Nat) {env' : (Nat → Fr) → List (Nat × Value)} {mem' : (Nat → Fr) → List (Nat × Ent)} (hg : i + g ≤ ops.size) (hr : RunsTo P n ops false i g env mem env' mem')
    (h : ∀ fr, GR P b n w0 S R ops (i + g) k (env' fr) (mem' fr)) : GR P b n w0 S R ops i k env mem := by
  intro a w hf hw
  obtain ⟨hs, sF, _, hsF⟩ := hr.states
  have hsplit : List.range' i (ops.size - i) = List.range' i g ++ List.range' (i + g) (ops.size - (i + g)) := by
    rw [show ops.size - i = g + (ops.size - (i + g)) by omega, ← List.range'_append_1]
  rw [hsplit]
  refine chain_sound (hs := hintAt hs) (n := n) (w0 := w0) (S := S) _ _ (fun _ => ⟨0, none, 0, [], fun _ _ => (none, 0)⟩) ⟨look env, look mem⟩ sF a w (List.nodup_range' ..) hf hw (fun fr _ => (hsF fr).1) ?_
  intro fr a' w' hf' hw'
  exact h fr a' w' (hf'.less (hsF fr).2.1) (hw'.less (hsF fr).2.2)

theorem GR.done {i : Nat} (hi : ops.size ≤ i) (h : GS P b n w0 S R k env mem) : GR P b n w0 S R ops i k env mem := by
  intro a w hf hw
  rw [show ops.size - i = 0 by omega]
  exact ⟨rfl, h a w hf hw⟩

/-- A call whose contract says what it makes of all that is known. -/
theorem GR.call {X : Type} {i : Nat} {o : Oper} {g : FuncId} {args : Array Value} {v : X → Value} {mem' : X → List (Nat × Ent)} {env' : X → List (Nat × Value)} (ho : ops[i]? = some o)
    (hloc : dstIn n o.dst = true ∧ notSelect o.op = true ∧ wantedS ops (look env) o = some true ∧ o.op.operands.toList.all (knows (look env)) = true)
    (hex : runPure P (execOp (val (look env)) o) = some (.enter g args))
    (hc : ∀ w, Sat w0 S (look mem) w → Calls P g args w fun e w' => ∃ x, e = .returned (v x) ∧ Sat w0 S (look (mem' x)) w')
    (henv : ∀ x t u, look (env' x) t = some u → put (look env) o.dst (v x) t = some u)
    (h : ∀ x, GR P b n w0 S R ops (i + 1) k (env' x) (mem' x)) : GR P b n w0 S R ops i k env mem := by
  intro a w hf hw
  obtain ⟨hd, hns, hwt, hall⟩ := hloc
  have hlt : i < ops.size := (Array.getElem?_eq_some_iff.1 ho).1
  have hσ : execOp a.eval o = execOp (val (look env)) o := execOp_congr o (fun cs b hc => by simp [hc, notSelect] at hns) fun x hx => hf.eval (List.all_eq_true.1 hall x (by simpa using hx))
  rw [show ops.size - i = (ops.size - (i + 1)) + 1 by omega, List.range'_succ, wpOpsIn_cons]
  unfold wpOpIn
  simp only [ho, wantedS_sound hf hwt, if_true]
  refine wp_in (fun c hc => by rw [hc] at hns; cases hns) ?_
  unfold Oper.wp
  rw [hσ, runPure_sound _ hex w, Oper.upon_enter]
  refine (hc w hw).mono fun e w' ⟨x, he, hs⟩ => ?_
  subst he
  refine h x _ w' ?_ hs
  exact (hf.put (fun t ht => by simp [ht, dstIn] at hd; exact hd) (v x)).less (henv x)

theorem GR.less {i : Nat} {env' : List (Nat × Value)} {mem' : List (Nat × Ent)} (he : ∀ t v, look env' t = some v → look env t = some v) (hm : ∀ w, Sat w0 S (look mem) w → Sat w0 S (look mem') w)
    (h : GR P b n w0 S R ops i k env' mem') : GR P b n w0 S R ops i k env mem :=
  fun a w hf hw => h a w (hf.less he) (hm w hw)

theorem GR.setMem {i : Nat} {mem' : List (Nat × Ent)} (hm : ∀ w, Sat w0 S (look mem) w → Sat w0 S (look mem') w) (h : GR P b n w0 S R ops i k env mem') : GR P b n w0 S R ops i k env mem :=
  fun a w hf hw => h a w hf (hm w hw)

theorem GS.open_ {id : Nat} (h : GR P b n w0 S R ops 0 k env mem) : GS P b n w0 S R (.code (.region id ops false) :: k) env mem := by
  intro a w hf hw
  refine Gm.of_wp (wpIn_region ?_)
  have := h a w hf hw
  rw [Nat.sub_zero] at this
  rw [List.range_eq_range']
  exact this

theorem GS.region {id : Nat} {draw : Bool} {env' : (Nat → Fr) → List (Nat × Value)} {mem' : (Nat → Fr) → List (Nat × Ent)} (hr : RunsTo P n ops draw 0 ops.size env mem env' mem')
    (h : ∀ fr, GS P b n w0 S R k (env' fr) (mem' fr)) : GS P b n w0 S R (.code (.region id ops draw) :: k) env mem := by
  cases draw with
  | false => exact GS.open_ (GR.run ops.size (by omega) hr fun fr => GR.done (by omega) (h fr))
  | true =>
    intro a w hf hw
    obtain ⟨hs, sF, hd, hsF⟩ := hr.states
    obtain ⟨hm, hB⟩ := hd rfl
    refine Gm.of_wp (wpIn_region_any hm ?_)
    refine any_sound (hs := hintAt hs) (n := n) (w0 := w0) (S := S) ops.size (Array.replicate ops.size false) (fun _ => ⟨0, none, 0, [], fun _ _ => (none, 0)⟩) ⟨look env, look mem⟩ sF a { w with drawn := w.drawn + 1 } hf (hw.drew _) (fun fr _ => ?_) ?_
    · obtain ⟨os, h1, h2⟩ := (hsF fr).1
      exact anyF_lex ops.size 0 _ _ os hB h1 h2
    · intro fr a' w' hf' hw'
      exact ⟨rfl, h fr a' w' (hf'.less (hsF fr).2.1) (hw'.less (hsF fr).2.2)⟩

/-! ### The end -/

/-- A result: the slot's value, or the variable to which it points; k: the entry. -/
def resOne (P : Program) (env : List (Nat × Value)) (mem : List (Nat × Ent)) (r : ResultVar) (k : Nat) : Option (Value × List Prop) :=
  match r with
  | .tmp t => (look env t).map fun v => (v, [])
  | .cell t ty => match look env t with
    | some x => opLoad P ty x (look mem k) 0 0 []
    | none => none

def resAll (P : Program) (env : List (Nat × Value)) (mem : List (Nat × Ent)) : List ResultVar → List Nat → Option (List Value × List Prop)
  | [], _ => some ([], [])
  | r :: l, ks => match resOne P env mem r (ks.headD 0), resAll P env mem l ks.tail with
    | some (v, os), some (vs, os') => some (v :: vs, os ++ os')
    | _, _ => none

def tupled : List Value → Value
  | [v] => v
  | vs => .tuple vs.toArray

def resSem (tmps : Array Value) : ResultVar → Sem Value
  | .tmp t => pure (tmps.getD t undef)
  | .cell a t => do loadVar t (← asAddr (tmps.getD a undef))

theorem results_run {fn : Func} {a : Act} {w : World} {ks : List Nat} {vs : List Value} {os : List Prop} {ds : List Deferred} (hf : Fits n ds (look env) a) (hw : Sat w0 S (look mem) w)
    (h : resAll P env mem fn.results.toList ks = some (vs, os)) (ho : All os) : (results fn a.tmps).run P w = .ok (tupled vs) w := by
  have hone : ∀ r k v os, resOne P env mem r k = some (v, os) → All os → (resSem a.tmps r).run P w = .ok v w := by
    intro r k v os hr hos
    cases r with
    | tmp t =>
      simp only [resOne] at hr
      cases hl : look env t with
      | none => simp [hl] at hr
      | some u =>
        simp [hl] at hr
        obtain ⟨rfl, rfl⟩ := hr
        have := hf.slot t _ hl
        simp [resSem, this]
    | cell q ty =>
      simp only [resOne] at hr
      cases hl : look env q with
      | none => simp [hl] at hr
      | some x =>
        simp [hl] at hr
        have h1 := hf.slot q _ hl
        have h2 := opLoad_sound hr hos (w := w) (fun E hE => hw.ok _ E hE)
        unfold Instr.loadAt at h2
        have hx : ∃ ad, x = .pointer (some ad) := by
          unfold opLoad at hr
          split at hr <;> try (simp at hr; done)
          all_goals exact ⟨_, rfl⟩
        obtain ⟨ad, rfl⟩ := hx
        simp only [Instr.sureAddr, Sem.run_bind, Sem.run_pure, Result.andThen_ok] at h2
        simp [resSem, h1, asAddr, h2]
  have hall : ∀ (l : List ResultVar) (ks : List Nat) (vs : List Value) (os : List Prop), resAll P env mem l ks = some (vs, os) → All os →
      Sem.run P (l.mapM (m := Sem) (resSem a.tmps)) w = .ok vs w := by
    intro l
    induction l with
    | nil => intro ks vs os h _; simp [resAll] at h; simp [← h.1]
    | cons r l ih =>
      intro ks vs os h hos
      simp only [resAll] at h
      split at h <;> simp at h
      rename_i v os1 vs' os2 h1 h2
      obtain ⟨rfl, rfl⟩ := h
      obtain ⟨g1, g2⟩ := All.append.1 hos
      simp only [List.mapM_cons, Sem.run_bind, hone r _ v os1 h1 g1, ih _ _ _ h2 g2, Result.andThen_ok, Sem.run_pure]
  have h1 := hall _ _ _ _ h ho
  have h0 : results fn a.tmps = (do
      let vs ← fn.results.mapM (resSem a.tmps)
      pure (if h : vs.size = 1 then vs[0] else .tuple vs)) := rfl
  rw [h0, Array.mapM_eq_mapM_toList]
  simp only [Sem.run_bind, Sem.run_map, h1, Result.andThen_ok, Sem.run_pure]
  congr 1
  cases vs with
  | nil => rfl
  | cons v r => cases r <;> rfl

theorem GS.ret {fn : Func} (ks : List Nat) (vs : List Value) (os : List Prop) (hk : (b.kind, b.roundOf, b.defers) = (.normal, none, [])) (hf : P.funcs[b.fn]? = some fn)
    (hr : resAll P env mem fn.results.toList ks = some (vs, os)) (ho : All os) (hR : ∀ w, Sat w0 S (look mem) w → R (.returned (tupled vs)) w) : GS P b n w0 S R (.code .ret :: k) env mem :=
  fun a w hfit hw => Gm.ret hk hf hfit.defers (results_run hfit hw hr ho) (hR w hw)

theorem GS.end_ {fn : Func} (ks : List Nat) (vs : List Value) (os : List Prop) (hk : (b.kind, b.roundOf, b.defers) = (.normal, none, [])) (hf : P.funcs[b.fn]? = some fn)
    (hr : resAll P env mem fn.results.toList ks = some (vs, os)) (ho : All os) (hR : ∀ w, Sat w0 S (look mem) w → R (.returned (tupled vs)) w) : GS P b n w0 S R [] env mem :=
  fun a w hfit hw => Gm.end_ hk hf hfit.defers (results_run hfit hw hr ho) (hR w hw)
end

end Sx
