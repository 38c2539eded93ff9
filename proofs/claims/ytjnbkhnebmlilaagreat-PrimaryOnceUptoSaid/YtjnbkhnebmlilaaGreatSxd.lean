/-
  The engine, part 4: a region of operations, in the text's order and in whatever order the tape draws.
-/
import Derived.Test.YtjnbkhnebmlilaaGreatSxc
import Derived.OrdersIn
import Derived.RangeFuncIn
set_option linter.unusedVariables false
set_option linter.unusedSimpArgs false
namespace Sx
open Go Go.RowKit

/-! ### The wide fence, in a round or not -/

/-- No fence at all; in the round of that loop, if there is one. -/
def Fw (r : Option Nat) : Fence := { fn := fun _ => True, depth := none, alive := false, round := r }
theorem fenced_fw (P : Program) (r : Option Nat) : Machine.fenced P (Fw r) = Machine.fenced P Fence.wide := rfl
theorem room_fw (r : Option Nat) (n : Nat) : (Fw r).room n := fun _ h => by simp [Fw] at h
theorem steps_fw {P : Program} {r : Option Nat} {m m' : Machine} : StepsIn (Machine.fenced P (Fw r)) P m m' ↔ Steps P m m' := by
  rw [fenced_fw]; exact stepsIn_wide
theorem comes_fw {P : Program} {r : Option Nat} {m m' : Machine} {e : Ending} : ComesIn (Machine.fenced P (Fw r)) P m m' e ↔ Comes P m m' e := by
  rw [fenced_fw]; exact comesIn_wide
theorem calls_fw {P : Program} {r : Option Nat} {n : Nat} {f : FuncId} {args : Array Value} {w : World} {R : Ending → World → Prop} (h : Calls P f args w R) : CallsIn (Fw r) n P f args w R :=
  ⟨trivial, fun cs _ => let ⟨e, w', fr, r, s, x⟩ := h cs; ⟨e, w', fr, r, comes_fw.2 s, x⟩⟩
theorem rows_fw {P : Program} {r : Option Nat} {n : Nat} {row : String} {args : Array Value} {w : World} {R : Value → World → Prop} (h : Rows P row args w R) : RowsIn (Fw r) n P row args w R :=
  fun c cs _ => let ⟨v, w', r, s⟩ := h c cs; ⟨v, w', r, steps_fw.2 s⟩
/-- What holds of an operation holds of it in a round, too. -/
theorem wp_in {P : Program} {r : Option Nat} {n : Nat} {o : Oper} {a : Act} {w : World} {K : Act → World → Prop} {Q : Exit → Act → World → Prop} (hnd : ∀ c, o.op ≠ .defer c) (h : o.wp P a w K Q) : o.wpIn (Fw r) n P a w K Q := by
  refine ⟨fun _ _ => trivial, ?_⟩
  rw [Oper.semAt_eq _ _ _ hnd]
  unfold Oper.wp at h
  generalize (execOp a.eval o).run P w = x at *
  have hdep : (Fw r).depth.isSome = true → 1 ≤ n := fun q => by simp [Fw] at q
  cases x with
  | ok nx w' =>
    cases nx <;> simp only [Oper.upon, Oper.uponIn] at h ⊢ <;> first | exact h | exact ⟨hdep, calls_fw h⟩ | exact ⟨hdep, rows_fw h⟩ | exact h.elim
  | halt x w' => cases x <;> simp only [Oper.upon, Oper.uponIn] at h ⊢ <;> first | exact h | exact h.elim

structure SState where
  ρ : Env
  m : Mem

def notSelect : Op → Bool
  | .select .. => false
  | .defer .. => false
  | _ => true

def dstIn (n : Nat) : Option Nat → Bool
  | none => true
  | some d => Nat.blt d n

/-- Does the guard want it? none: that is not known. -/
def wantedS (ops : Array Oper) (ρ : Env) (o : Oper) : Option Bool :=
  match o.guard with
  | none => some true
  | some (j, want) =>
    match (ops[j]?).bind (·.dst) with
    | none => none
    | some d => match ρ d with
      | some (.bool b) => some (b == want)
      | some (.tuple _) => some false
      | _ => none

def rdOf (ks : List Nat) (m : Mem) : Nat → Option Ent := fun k => match ks.contains k with | true => m k | false => none

def keyOf (h : Hint) (m : Mem) : Option Ent := match h.key with | some k => m k | none => none

/-- What the operation yields: the value, what becomes of its entry, what it asks. -/
def loc (P : Program) (n : Nat) (ops : Array Oper) (h : Hint) (f : Fr) (o : Oper) (s : SState) : Loc :=
  match dstIn n o.dst, notSelect o.op, wantedS ops s.ρ o with
  | true, true, some true =>
    match o.op.operands.toList.all (knows s.ρ) with
    | true => symOp P h f (val s.ρ) o (keyOf h s.m) (rdOf h.act.reads s.m)
    | false => none
  | true, true, some false => some (undef, keyOf h s.m, [])
  | _, _, _ => none

def after (h : Hint) (o : Oper) (s : SState) (v : Value) (e : Option Ent) : SState :=
  ⟨put s.ρ o.dst v, match h.key with | some k => upd s.m k e | none => s.m⟩

def stepF (P : Program) (n : Nat) (ops : Array Oper) (hs : Nat → Hint) (fr : Nat → Fr) (i : Nat) (s : SState) : Option (SState × List Prop) :=
  match ops[i]? with
  | none => none
  | some o => match loc P n ops (hs i) (fr i) o s with
    | some (v, e, os) => some (after (hs i) o s v e, os)
    | none => none

def chainF (P : Program) (n : Nat) (ops : Array Oper) (hs : Nat → Hint) (fr : Nat → Fr) : List Nat → SState → Option (SState × List Prop)
  | [], s => some (s, [])
  | i :: l, s => match stepF P n ops hs fr i s with
    | none => none
    | some (s', os) => match chainF P n ops hs fr l s' with
      | none => none
      | some (s'', os') => some (s'', os ++ os')

theorem wantedS_sound {n : Nat} {ds : List Deferred} {ops : Array Oper} {ρ : Env} {o : Oper} {a : Act} (hf : Fits n ds ρ a) {b : Bool} (h : wantedS ops ρ o = some b) : Region.wanted o (yielded ops a.tmps) = b := by
  unfold wantedS at h
  unfold Region.wanted
  split at h
  · rename_i hg; simp at h; subst h; simp [hg]
  · rename_i j want hg
    split at h <;> try (simp at h; done)
    rename_i d hd
    split at h <;> simp at h
    · rename_i c hc
      subst h
      have := hf.slot d _ hc
      simp only [hg, yielded, hd, Option.bind_some, this]
      cases c <;> cases want <;> rfl
    · rename_i c hc
      subst h
      have := hf.slot d _ hc
      simp only [hg, yielded, hd, Option.bind_some, this]
      rfl

/-- One operation's step, carried out. -/
theorem stepF_sound {P : Program} {r : Option Nat} {N : Nat} {n : Nat} {ds : List Deferred} {ops : Array Oper} {hs : Nat → Hint} {i : Nat} {s : SState} {a : Act} {w0 w : World} {S : Area} {Q : Exit → Act → World → Prop}
    (hf : Fits n ds s.ρ a) (hw : Sat w0 S s.m w) (K : Act → World → Prop)
    (hall : ∀ f : Fr, ∃ s' os, stepF P n ops hs (fun _ => f) i s = some (s', os) ∧ All os ∧ ∀ a' w', Fits n ds s'.ρ a' → Sat w0 S s'.m w' → K a' w') : wpOpIn (Fw r) N P ops Q i K a w := by
  cases ho : ops[i]? with
  | none => obtain ⟨s', os, h, _⟩ := hall ⟨0, none, 0, [], fun _ _ => (none, 0)⟩; simp [stepF, ho] at h
  | some o =>
    have hke : ∀ E, keyOf (hs i) s.m = some E → E.ok w := fun E hE => by
      unfold keyOf at hE
      split at hE
      · exact hw.ok _ E hE
      · cases hE
    have hrd : ∀ k E, rdOf (hs i).act.reads s.m k = some E → E.ok w := fun k E hE => by
      unfold rdOf at hE
      split at hE
      · exact hw.ok _ E hE
      · cases hE
    have hrdm : ∀ q E, rdOf (hs i).act.reads s.m q = some E → s.m q = some E := fun q E hE => by
      unfold rdOf at hE
      split at hE
      · exact hE
      · cases hE
    have hkeep : ∀ v e (w' : World), EffR (rdOf (hs i).act.reads s.m) (keyOf (hs i) s.m) e w w' → ∀ s', s' = after (hs i) o s v e → Sat w0 S s'.m w' := fun v e w' hE s' hs' => by
      subst hs'
      unfold after keyOf at *
      cases hkey : (hs i).key with
      | none =>
        simp only [hkey] at hE ⊢
        have hk : Keep (fun _ => False) w w' := hE.keep.mono fun b _ ⟨E, h, _⟩ => by cases h
        exact hw.keepOn hk
      | some k =>
        simp only [hkey] at hE ⊢
        exact hw.stepR hrdm hE
    have hloc : ∀ f, ∃ v e os, loc P n ops (hs i) f o s = some (v, e, os) ∧ All os ∧ ∀ a' w', Fits n ds (after (hs i) o s v e).ρ a' → Sat w0 S (after (hs i) o s v e).m w' → K a' w' := fun f => by
      obtain ⟨s', os, h, hos, hK⟩ := hall f
      unfold stepF at h
      simp only [ho] at h
      cases hl : loc P n ops (hs i) f o s with
      | none => simp [hl] at h
      | some p =>
        obtain ⟨v, e, os1⟩ := p
        simp [hl] at h
        obtain ⟨rfl, rfl⟩ := h
        exact ⟨v, e, os1, rfl, hos, hK⟩
    obtain ⟨v0, e0, os0, hl0, ho0, hK0⟩ := hloc ⟨0, none, 0, [], fun _ _ => (none, 0)⟩
    have hl0' := hl0
    unfold loc at hl0
    split at hl0 <;> try (simp at hl0; done)
    · rename_i hd hsel hwt
      cases hkn : o.op.operands.toList.all (knows s.ρ) with
      | false => simp [hkn] at hl0
      | true =>
        have hσ : execOp a.eval o = execOp (val s.ρ) o := execOp_congr o (fun cs b hc => by simp [hc, notSelect] at hsel) fun x hx => hf.eval (List.all_eq_true.1 hkn x (by simpa using hx))
        unfold wpOpIn
        simp only [ho, wantedS_sound hf hwt, if_true]
        have hap : keyOK (hs i) = true → ∀ ks v e', (hs i).act = .callo ks v e' → ∀ E, keyOf (hs i) s.m = some E → E.own = true → ∀ k ∈ ks, ∀ E', rdOf (hs i).act.reads s.m k = some E' → ∀ b, E.foot b → ¬ E'.foot b := by
          intro hq ks v e' hact E hE hown k hk E' hE' b hb
          unfold keyOK at hq
          rw [hact] at hq
          unfold keyOf at hE
          cases hkey : (hs i).key with
          | none => rw [hkey] at hE; cases hE
          | some k0 =>
            rw [hkey] at hE
            simp only [hkey] at hq
            unfold rdOf at hE'
            split at hE'
            · refine hw.apart k0 k E E' (fun h => ?_) hE hE' hown b hb
              subst h
              simp [hk] at hq
            · cases hE'
        refine wp_in (fun c hc => by rw [hc] at hsel; cases hsel) (symOp_sound (P := P) (hn := hs i) hσ hke hrd hap K fun f => ?_)
        obtain ⟨v, e, os, hl, hos, hK⟩ := hloc f
        unfold loc at hl
        simp only [hd, hsel, hwt, hkn] at hl
        exact ⟨v, e, os, hl, hos, fun w' hE => hK _ _ (hf.put (fun t ht => by simp [ht, dstIn] at hd; exact hd) _) (hkeep _ _ _ hE _ rfl)⟩
    · rename_i hd _ hwt
      simp at hl0
      obtain ⟨rfl, rfl, rfl⟩ := hl0
      unfold wpOpIn
      simp only [ho, wantedS_sound hf hwt, Bool.false_eq_true, if_false]
      refine ⟨fun _ _ => trivial, ?_⟩
      exact hK0 _ _ (hf.put (fun t ht => by simp [ht, dstIn] at hd; exact hd) _) (hkeep _ _ _ ((Eff.refl hke).toR _) _ rfl)

theorem stepF_congr {P : Program} {n : Nat} {ops : Array Oper} {hs : Nat → Hint} {fr fr' : Nat → Fr} {i : Nat} (h : fr i = fr' i) (s : SState) : stepF P n ops hs fr i s = stepF P n ops hs fr' i s := by
  unfold stepF; rw [h]

def setFr (fr : Nat → Fr) (i : Nat) (f : Fr) : Nat → Fr := fun j => if j = i then f else fr j

/-- Operations one behind the other, in this order. -/
theorem chain_sound {P : Program} {r : Option Nat} {N : Nat} {n : Nat} {ds : List Deferred} {ops : Array Oper} {hs : Nat → Hint} {w0 : World} {S : Area} {Q : Exit → Act → World → Prop} (l2 : List Nat) :
    ∀ (l : List Nat) (f0 : Nat → Fr) (s : SState) (sF : (Nat → Fr) → SState) (a : Act) (w : World), l.Nodup → Fits n ds s.ρ a → Sat w0 S s.m w →
      (∀ fr : Nat → Fr, (∀ i, i ∉ l → fr i = f0 i) → ∃ os, chainF P n ops hs fr l s = some (sF fr, os) ∧ All os) →
      (∀ fr a' w', Fits n ds (sF fr).ρ a' → Sat w0 S (sF fr).m w' → wpOpsIn (Fw r) N P ops Q l2 a' w') → wpOpsIn (Fw r) N P ops Q (l ++ l2) a w
  | [], f0, s, sF, a, w, _, hf, hw, hc, hk => by
    obtain ⟨os, h, _⟩ := hc f0 (fun _ _ => rfl)
    simp [chainF] at h
    exact hk f0 a w (h.1 ▸ hf) (h.1 ▸ hw)
  | i :: l, f0, s, sF, a, w, hnd, hf, hw, hc, hk => by
    obtain ⟨hi, hnd'⟩ := List.nodup_cons.1 hnd
    rw [List.cons_append, wpOpsIn_cons]
    refine stepF_sound (P := P) (n := n) (ops := ops) (hs := hs) (i := i) (Q := Q) hf hw _ fun f => ?_
    have hc' : ∀ fr : Nat → Fr, (∀ j, j ∉ l → fr j = setFr f0 i f j) → ∃ s' os os', stepF P n ops hs (setFr f0 i f) i s = some (s', os) ∧ All os ∧ chainF P n ops hs fr l s' = some (sF fr, os') ∧ All os' := by
      intro fr hfr
      obtain ⟨os, h, hos⟩ := hc fr (fun j hj => by
        have := hfr j (fun hm => hj (List.mem_cons_of_mem _ hm))
        rw [this]
        have : j ≠ i := fun e => hj (e ▸ List.mem_cons_self)
        simp [setFr, this])
      unfold chainF at h
      have hii : fr i = setFr f0 i f i := hfr i hi
      rw [stepF_congr (fr' := setFr f0 i f) hii s] at h
      cases h1 : stepF P n ops hs (setFr f0 i f) i s with
      | none => simp [h1] at h
      | some p =>
        obtain ⟨s', os1⟩ := p
        simp only [h1] at h
        cases h2 : chainF P n ops hs fr l s' with
        | none => simp [h2] at h
        | some p2 =>
          obtain ⟨s'', os2⟩ := p2
          simp only [h2, Option.some.injEq, Prod.mk.injEq] at h
          obtain ⟨rfl, rfl⟩ := h
          obtain ⟨g1, g2⟩ := All.append.1 hos
          exact ⟨s', os1, os2, rfl, g1, h2, g2⟩
    obtain ⟨s', os, _, h1, hos, _, _⟩ := hc' (setFr f0 i f) (fun _ _ => rfl)
    refine ⟨s', os, by rw [← h1]; exact stepF_congr (by simp [setFr]) s, hos, fun a' w' hf' hw' => ?_⟩
    refine chain_sound (hs := hs) l2 l (setFr f0 i f) s' sF a' w' hnd' hf' hw' (fun fr hfr => ?_) hk
    obtain ⟨s1, os1, os2, g1, _, g3, g4⟩ := hc' fr hfr
    rw [h1] at g1
    cases g1
    exact ⟨os2, g3, g4⟩

/-! ### Any order -/

/-- From here on each order comes to sF. -/
def anyF (P : Program) (n : Nat) (md : Region.Mode) (ops : Array Oper) (hs : Nat → Hint) (fr : Nat → Fr) (sF : SState) : Nat → Array Bool → SState → Prop
  | 0, listed, s => Region.ready md ops listed = [] ∧ s = sF
  | fuel + 1, listed, s => (Region.ready md ops listed = [] → s = sF) ∧
    ∀ i ∈ Region.ready md ops listed, ∃ s' os, stepF P n ops hs fr i s = some (s', os) ∧ All os ∧ anyF P n md ops hs fr sF fuel (listed.setIfInBounds i true) s'

theorem not_listed {md : Region.Mode} {ops : Array Oper} {listed : Array Bool} {i : Nat} (h : i ∈ Region.ready md ops listed) : listed.getD i true = false := (mem_ready.1 h).1

theorem any_sound {P : Program} {r : Option Nat} {N : Nat} {n : Nat} {ds : List Deferred} {md : Region.Mode} {ops : Array Oper} {hs : Nat → Hint} {w0 : World} {S : Area} {Q : Exit → Act → World → Prop} :
    ∀ (fuel : Nat) (listed : Array Bool) (f0 : Nat → Fr) (s : SState) (sF : (Nat → Fr) → SState) (a : Act) (w : World), Fits n ds s.ρ a → Sat w0 S s.m w →
      (∀ fr : Nat → Fr, (∀ i, listed.getD i true = true → fr i = f0 i) → anyF P n md ops hs fr (sF fr) fuel listed s) →
      (∀ fr a' w', Fits n ds (sF fr).ρ a' → Sat w0 S (sF fr).m w' → Q .normal a' w') → wpAnyIn (Fw r) N P md ops Q fuel listed a w
  | 0, listed, f0, s, sF, a, w, hf, hw, hc, hk => by
    obtain ⟨h1, h2⟩ := hc f0 (fun _ _ => rfl)
    exact ⟨h1, hk f0 a w (h2 ▸ hf) (h2 ▸ hw)⟩
  | fuel + 1, listed, f0, s, sF, a, w, hf, hw, hc, hk => by
    refine ⟨fun h0 => ?_, fun i hi => ?_⟩
    · have h2 := (hc f0 (fun _ _ => rfl)).1 h0
      exact hk f0 a w (h2 ▸ hf) (h2 ▸ hw)
    · refine stepF_sound (P := P) (n := n) (ops := ops) (hs := hs) (i := i) (Q := Q) hf hw _ fun f => ?_
      have hun := not_listed hi
      have hc' : ∀ fr : Nat → Fr, (∀ j, (listed.setIfInBounds i true).getD j true = true → fr j = setFr f0 i f j) →
          ∃ s' os, stepF P n ops hs (setFr f0 i f) i s = some (s', os) ∧ All os ∧ anyF P n md ops hs fr (sF fr) fuel (listed.setIfInBounds i true) s' := by
        intro fr hfr
        have hfi : fr i = setFr f0 i f i := hfr i (by
          rcases Nat.lt_or_ge i listed.size with h | h
          · simp [h]
          · simp [Array.getElem?_eq_none h])
        have := (hc fr (fun j hj => by
          have hji : j ≠ i := fun e => by subst e; rw [hun] at hj; cases hj
          have := hfr j (by rw [getD_set_ne true (Ne.symm hji)]; exact hj)
          rw [this]; simp [setFr, hji])).2 i hi
        obtain ⟨s', os, h1, h2, h3⟩ := this
        rw [stepF_congr (fr' := setFr f0 i f) hfi s] at h1
        exact ⟨s', os, h1, h2, h3⟩
      obtain ⟨s', os, h1, hos, _⟩ := hc' (setFr f0 i f) (fun _ _ => rfl)
      refine ⟨s', os, by rw [← h1]; exact stepF_congr (by simp [setFr]) s, hos, fun a' w' hf' hw' => ?_⟩
      refine any_sound (hs := hs) fuel _ (setFr f0 i f) s' sF a' w' hf' hw' (fun fr hfr => ?_) hk
      obtain ⟨s1, os1, g1, _, g3⟩ := hc' fr hfr
      rw [h1] at g1
      cases g1
      exact g3

/-- Neither touches what the other one touches. -/
def apartH (x y : Hint) : Bool :=
  (match x.key, y.key with | some k, some k' => !(k == k') | _, _ => true) &&
  (match x.key with | some k => !(y.act.reads.contains k) | none => true) &&
  (match y.key with | some k => !(x.act.reads.contains k) | none => true)

theorem put_comm (ρ : Env) {x y : Option Nat} (v u : Value) (h : ∀ d, x = some d → y ≠ some d) : put (put ρ x v) y u = put (put ρ y u) x v := by
  cases x with
  | none => rfl
  | some d =>
    cases y with
    | none => rfl
    | some e =>
      have hne : d ≠ e := fun he => h d rfl (he ▸ rfl)
      funext t
      simp only [put]
      cases h1 : Nat.beq d t <;> cases h2 : Nat.beq e t <;> simp
      exact absurd ((Nat.eq_of_beq_eq_true h1).trans (Nat.eq_of_beq_eq_true h2).symm) hne

theorem upd_comm {α : Type} (m : Nat → Option α) {k k' : Nat} (e e' : Option α) (h : k ≠ k') : upd (upd m k e) k' e' = upd (upd m k' e') k e := by
  funext t
  simp only [upd]
  cases h1 : Nat.beq k t <;> cases h2 : Nat.beq k' t <;> simp
  exact absurd ((Nat.eq_of_beq_eq_true h1).trans (Nat.eq_of_beq_eq_true h2).symm) h

theorem put_other {ρ : Env} {d : Option Nat} {v : Value} {t : Nat} (h : d ≠ some t) : put ρ d v t = ρ t := by
  cases d with
  | none => rfl
  | some d =>
    have : Nat.beq d t = false := by
      cases hb : Nat.beq d t with
      | false => rfl
      | true => exact absurd (congrArg some (Nat.eq_of_beq_eq_true hb)) h
    simp [put, this]

/-- Whether oi has come or not makes no difference to what oj yields. -/
theorem loc_after {P : Program} {n : Nat} {ops : Array Oper} {hi hj : Hint} {f : Fr} {oi oj : Oper} {s : SState} {v : Value} {e : Option Ent}
    (h1 : ∀ d, oi.dst = some d → d ∉ oj.looksAt ops) (hkey : ∀ k, hi.key = some k → hj.key ≠ some k ∧ hj.act.reads.contains k = false) :
    loc P n ops hj f oj (after hi oi s v e) = loc P n ops hj f oj s := by
  have hslot : ∀ t, t ∈ oj.looksAt ops → put s.ρ oi.dst v t = s.ρ t := fun t ht => put_other fun hd => h1 t hd ht
  have hop : ∀ x ∈ oj.op.operands, knows (put s.ρ oi.dst v) x = knows s.ρ x ∧ val (put s.ρ oi.dst v) x = val s.ρ x := fun x hx => by
    cases x with
    | tmp t =>
      have : t ∈ oj.looksAt ops := by
        unfold Oper.looksAt
        exact List.mem_append.2 (.inl (List.mem_filterMap.2 ⟨.tmp t, by simpa using hx, rfl⟩))
      simp [knows, val, hslot t this]
    | _ => exact ⟨rfl, rfl⟩
  have hkn : oj.op.operands.toList.all (knows (put s.ρ oi.dst v)) = oj.op.operands.toList.all (knows s.ρ) := by
    rw [Bool.eq_iff_iff, List.all_eq_true, List.all_eq_true]
    exact ⟨fun h x hx => by rw [← (hop x (by simpa using hx)).1]; exact h x hx, fun h x hx => by rw [(hop x (by simpa using hx)).1]; exact h x hx⟩
  have hwt : wantedS ops (put s.ρ oi.dst v) oj = wantedS ops s.ρ oj := by
    unfold wantedS
    cases hg : oj.guard with
    | none => rfl
    | some p =>
      obtain ⟨g, want⟩ := p
      simp only
      cases hd : (ops[g]?).bind (·.dst) with
      | none => rfl
      | some d =>
        have : d ∈ oj.looksAt ops := by
          unfold Oper.looksAt
          exact List.mem_append.2 (.inr (by simp [hg, hd]))
        simp only [hslot d this]
  have hkm : keyOf hj (after hi oi s v e).m = keyOf hj s.m := by
    unfold keyOf after
    cases hk : hi.key with
    | none => rfl
    | some k =>
      simp only
      cases hk' : hj.key with
      | none => rfl
      | some k' => exact upd_other _ _ fun e => (hkey k hk).1 (by rw [hk', e])
  have hrd : rdOf hj.act.reads (after hi oi s v e).m = rdOf hj.act.reads s.m := by
    funext q
    unfold rdOf after
    cases hk : hi.key with
    | none => rfl
    | some k =>
      simp only
      cases hq : hj.act.reads.contains q with
      | false => rfl
      | true =>
        refine upd_other _ _ fun e => ?_
        subst e
        rw [(hkey k hk).2] at hq
        cases hq
  have hsym : oj.op.operands.toList.all (knows s.ρ) = true → notSelect oj.op = true → symOp P hj f (val (put s.ρ oi.dst v)) oj = symOp P hj f (val s.ρ) oj := by
    intro hall hns
    have hex : execOp (val (put s.ρ oi.dst v)) oj = execOp (val s.ρ) oj := execOp_congr oj (fun cs b hc => by simp [hc, notSelect] at hns) fun x hx => (hop x hx).2
    have hact : symAct P hj.act f (val (put s.ρ oi.dst v)) oj = symAct P hj.act f (val s.ρ) oj := by
      funext e1 r1
      have hv : ∀ x ∈ oj.op.operands, val (put s.ρ oi.dst v) x = val s.ρ x := fun x hx => (hop x hx).2
      clear hop
      unfold symAct
      split
      all_goals (try rw [hex])
      all_goals (try (rename_i hopq; rw [hopq] at hv; simp [Op.operands] at hv; simp only [hv]; done))
      all_goals (try rfl)
      · rename_i l h m t x lo hi mx _ hopq
        have h1 := hv x (by simp [hopq, Op.operands])
        have hb : ∀ (y : Option Operand) (j d : Nat), (y = lo ∨ y = hi ∨ y = mx) → boundIs (val (put s.ρ oi.dst v)) y j d = boundIs (val s.ρ) y j d := by
          intro y j d hy
          cases y with
          | none => rfl
          | some a =>
            have : val (put s.ρ oi.dst v) a = val s.ρ a := hv a (by rcases hy with h | h | h <;> simp [hopq, Op.operands, ← h])
            simp only [boundIs, this]
        simp only [opCut, h1, hb lo _ _ (.inl rfl), hb hi _ _ (.inr (.inl rfl)), hb mx _ _ (.inr (.inr rfl))]
      · rename_i k2 args ats _ hopq
        have hm : ∀ x ∈ args.toList, val (put s.ρ oi.dst v) x = val s.ρ x := fun x hx => hv x (by simp only [hopq, Op.operands, Call.operands]; exact Array.mem_append.2 (.inr (by simpa using hx)))
        split
        · rename_i a b hargs
          rw [hm a (by simp [hargs]), hm b (by simp [hargs])]
        · rfl
      · rename_i k1 k2 args ats _ hopq
        have hm : ∀ x ∈ args.toList, val (put s.ρ oi.dst v) x = val s.ρ x := fun x hx => hv x (by simp only [hopq, Op.operands, Call.operands]; exact Array.mem_append.2 (.inr (by simpa using hx)))
        split
        · rename_i a b hargs
          rw [hm a (by simp [hargs]), hm b (by simp [hargs])]
        · rfl
      · rename_i l0 j0 m0 args ats _ hopq
        have hm : ∀ x ∈ args.toList, val (put s.ρ oi.dst v) x = val s.ρ x := fun x hx => hv x (by simp only [hopq, Op.operands, Call.operands]; exact Array.mem_append.2 (.inr (by simpa using hx)))
        split
        · rename_i a b hargs
          rw [hm a (by simp [hargs]), hm b (by simp [hargs])]
        · rfl
      · rename_i l0 m0 args ats _ hopq
        have hm : ∀ x ∈ args.toList, val (put s.ρ oi.dst v) x = val s.ρ x := fun x hx => hv x (by simp only [hopq, Op.operands, Call.operands]; exact Array.mem_append.2 (.inr (by simpa using hx)))
        split
        · rename_i a hargs
          rw [hm a (by simp [hargs])]
        · rfl
      · rename_i k2 args ats _ hopq
        have hm : ∀ x ∈ args.toList, val (put s.ρ oi.dst v) x = val s.ρ x := fun x hx => hv x (by simp only [hopq, Op.operands, Call.operands]; exact Array.mem_append.2 (.inr (by simpa using hx)))
        split
        · rename_i a b hargs
          rw [hm a (by simp [hargs]), hm b (by simp [hargs])]
        · rfl
      · rename_i l0 k2 args ats _ hopq
        have hm : ∀ x ∈ args.toList, val (put s.ρ oi.dst v) x = val s.ρ x := fun x hx => hv x (by simp only [hopq, Op.operands, Call.operands]; exact Array.mem_append.2 (.inr (by simpa using hx)))
        split
        · rename_i a b hargs
          rw [hm a (by simp [hargs]), hm b (by simp [hargs])]
        · rfl
      · rename_i k2 args ats _ hopq
        have hm : ∀ x ∈ args.toList, val (put s.ρ oi.dst v) x = val s.ρ x := fun x hx => hv x (by simp only [hopq, Op.operands, Call.operands]; exact Array.mem_append.2 (.inr (by simpa using hx)))
        split
        · rename_i a hargs
          rw [hm a (by simp [hargs])]
        · rfl
      · rename_i args ats _ hopq
        have hm : ∀ x ∈ args.toList, val (put s.ρ oi.dst v) x = val s.ρ x := fun x hx => hv x (by simp only [hopq, Op.operands, Call.operands]; exact Array.mem_append.2 (.inr (by simpa using hx)))
        split
        · rename_i a b hargs
          rw [hm a (by simp [hargs]), hm b (by simp [hargs])]
        · rfl
    funext e1 r1
    unfold symOp
    rw [hact]
  have hρ : (after hi oi s v e).ρ = put s.ρ oi.dst v := rfl
  unfold loc
  rw [hkm, hrd, hρ, hwt]
  rw [hkn]
  split
  · rename_i hns _
    cases hall : oj.op.operands.toList.all (knows s.ρ) with
    | false => rfl
    | true => simp only [hsym hall hns]
  · rfl
  · rfl

theorem apartH_spec {x y : Hint} (h : apartH x y = true) :
    (∀ k, x.key = some k → y.key ≠ some k ∧ y.act.reads.contains k = false) ∧ (∀ k, y.key = some k → x.key ≠ some k ∧ x.act.reads.contains k = false) := by
  unfold apartH at h
  simp only [Bool.and_eq_true] at h
  obtain ⟨⟨h1, h2⟩, h3⟩ := h
  refine ⟨fun k hk => ⟨fun hk' => ?_, ?_⟩, fun k hk => ⟨fun hk' => ?_, ?_⟩⟩
  · simp [hk, hk'] at h1
  · simpa [hk] using h2
  · simp [hk, hk'] at h1
  · simpa [hk] using h3

/-- Two operations that are apart may come either way round. -/
theorem stepF_swap {P : Program} {n : Nat} {ops : Array Oper} {hs : Nat → Hint} {fr : Nat → Fr} {i j : Nat} {oi oj : Oper} (hoi : ops[i]? = some oi) (hoj : ops[j]? = some oj)
    (hap : oi.apart ops oj = true) (hah : apartH (hs i) (hs j) = true) {s s1 s2 : SState} {p q : List Prop}
    (h1 : stepF P n ops hs fr i s = some (s1, p)) (h2 : stepF P n ops hs fr j s1 = some (s2, q)) :
    ∃ s1', stepF P n ops hs fr j s = some (s1', q) ∧ stepF P n ops hs fr i s1' = some (s2, p) := by
  obtain ⟨a1, a2, a3⟩ := Oper.apart_spec hap
  obtain ⟨k1, k2⟩ := apartH_spec hah
  unfold stepF at h1 h2
  simp only [hoi] at h1
  simp only [hoj] at h2
  cases hl : loc P n ops (hs i) (fr i) oi s with
  | none => simp [hl] at h1
  | some pi =>
    obtain ⟨v, e, os⟩ := pi
    simp only [hl, Option.some.injEq, Prod.mk.injEq] at h1
    obtain ⟨rfl, rfl⟩ := h1
    rw [loc_after a1 k1] at h2
    cases hl' : loc P n ops (hs j) (fr j) oj s with
    | none => simp [hl'] at h2
    | some pj =>
      obtain ⟨v', e', os'⟩ := pj
      simp only [hl', Option.some.injEq, Prod.mk.injEq] at h2
      obtain ⟨rfl, rfl⟩ := h2
      refine ⟨after (hs j) oj s v' e', ?_, ?_⟩
      · simp [stepF, hoj, hl']
      · unfold stepF
        simp only [hoi]
        rw [loc_after a3 k2, hl]
        simp only [Option.some.injEq, Prod.mk.injEq, and_true]
        unfold after
        congr 1
        · exact (put_comm s.ρ v v' a2).symm
        · cases hki : (hs i).key with
          | none => rfl
          | some k =>
            cases hkj : (hs j).key with
            | none => rfl
            | some k' =>
              simp only
              exact (upd_comm s.m e e' fun he => (k1 k hki).1 (by rw [hkj, he])).symm

/-- Does number j wait for number k, at once or by way of others that have not come? -/
def waitsF (md : Region.Mode) (ops : Array Oper) (listed : Array Bool) (k : Nat) : Nat → Nat → Bool
  | 0, _ => false
  | f + 1, j => match ops[j]? with
    | none => false
    | some oj => oj.after.toList.any fun e => Region.binds md e && (Nat.beq e.on k || (!(listed.getD e.on false) && waitsF md ops listed k f e.on))

/-- An operation that may come now may be taken first. -/
theorem anyF_first {P : Program} {n : Nat} {md : Region.Mode} {ops : Array Oper} {hs : Nat → Hint} {fr : Nat → Fr} {sF : SState} {i : Nat} {oi : Oper} (L0 : Array Bool) (hi : ops[i]? = some oi) :
    ∀ (fuel : Nat) (listed : Array Bool) (s s1 : SState) (p : List Prop),
      (∀ j oj, ops[j]? = some oj → j ≠ i → listed.getD j true = false → (∀ f, waitsF md ops L0 i f j = false) → oi.apart ops oj = true ∧ apartH (hs i) (hs j) = true) →
      (∀ m f, waitsF md ops L0 i f m = true → L0.getD m false = false → listed.getD m false = false) →
      i ∈ Region.ready md ops listed → stepF P n ops hs fr i s = some (s1, p) → All p →
      anyF P n md ops hs fr sF fuel (listed.setIfInBounds i true) s1 → anyF P n md ops hs fr sF (fuel + 1) listed s := by
  intro fuel
  induction fuel with
  | zero =>
    intro listed s s1 p _ _ hr hst hp H
    refine ⟨fun h => (by rw [h] at hr; cases hr), fun j hj => ?_⟩
    by_cases hji : j = i
    · subst hji; exact ⟨s1, p, hst, hp, H⟩
    · have := ready_mono hj hji
      rw [H.1] at this
      cases this
  | succ fuel ih =>
    intro listed s s1 p hfree hinv hr hst hp H
    refine ⟨fun h => (by rw [h] at hr; cases hr), fun j hj => ?_⟩
    by_cases hji : j = i
    · subst hji; exact ⟨s1, p, hst, hp, H⟩
    · obtain ⟨s2, q, hj1, hq, H2⟩ := H.2 j (ready_mono hj hji)
      obtain ⟨hjun, oj, hoj, hall⟩ := mem_ready.1 hj
      have hnot0 : ∀ e ∈ oj.after, Region.binds md e = true → e.on ≠ i := fun e he hb heq => by
        have h1 := hall e he hb
        have h0 := (mem_ready.1 hr).1
        rw [heq] at h1
        rcases Nat.lt_or_ge i listed.size with h' | h'
        · simp [h'] at h0 h1; rw [h0] at h1; cases h1
        · simp [Array.getElem?_eq_none h'] at h1
      have hnot : ∀ f, waitsF md ops L0 i f j = false := fun f => by
        cases hwf : waitsF md ops L0 i f j with
        | false => rfl
        | true =>
          exfalso
          cases f with
          | zero => cases hwf
          | succ f =>
            simp only [waitsF, hoj] at hwf
            obtain ⟨e, he, h2⟩ := List.any_eq_true.1 hwf
            simp only [Bool.and_eq_true, Bool.or_eq_true, Bool.not_eq_true'] at h2
            obtain ⟨hb, h2⟩ := h2
            have hem : e ∈ oj.after := by simpa using he
            rcases h2 with h2 | ⟨h2, h3⟩
            · exact hnot0 e hem hb (Nat.eq_of_beq_eq_true h2)
            · have h4 := hinv e.on f h3 h2
              rw [hall e hem hb] at h4
              cases h4
      obtain ⟨hap, hah⟩ := hfree j oj hoj hji hjun hnot
      obtain ⟨s1', g1, g2⟩ := stepF_swap hi hoj hap hah hst hj1
      refine ⟨s1', q, g1, hq, ih (listed.setIfInBounds j true) s1' s2 p (fun k ok hk hki hun hno => ?_) (fun m f hm hm0 => ?_) (ready_mono hr (Ne.symm hji)) g2 hp ?_⟩
      · refine hfree k ok hk hki ?_ hno
        by_cases hjk : j = k
        · subst hjk; exact hjun
        · rw [getD_set_ne true hjk] at hun; exact hun
      · have hjm : j ≠ m := fun he => by subst he; rw [hnot f] at hm; cases hm
        rw [getD_set_ne false hjm]
        exact hinv m f hm hm0
      · rw [Array.setIfInBounds_comm _ _ hji]
        exact H2

/-- Each one that has not come, and does not wait for number k, is apart from it. -/
def freeH (md : Region.Mode) (ops : Array Oper) (hs : Nat → Hint) (listed : Array Bool) (k : Nat) : Bool :=
  (List.range ops.size).all fun j => Nat.beq j k || listed.getD j true ||
    match ops[j]?, ops[k]? with
    | some oj, some ok => (oj.after.toList.any fun e => Region.binds md e && Nat.beq e.on k) || (ok.apart ops oj && apartH (hs k) (hs j)) || waitsF md ops listed k 4 j
    | _, _ => true

theorem freeH_spec {md : Region.Mode} {ops : Array Oper} {hs : Nat → Hint} {listed : Array Bool} {k : Nat} {ok : Oper} (hk : ops[k]? = some ok) (h : freeH md ops hs listed k = true) :
    ∀ j oj, ops[j]? = some oj → j ≠ k → listed.getD j true = false → (∀ f, waitsF md ops listed k f j = false) → ok.apart ops oj = true ∧ apartH (hs k) (hs j) = true := by
  intro j oj hj hne hun hno
  have hlt : j < ops.size := (Array.getElem?_eq_some_iff.1 hj).1
  have h1 := List.all_eq_true.1 h j (List.mem_range.2 hlt)
  have hb : Nat.beq j k = false := by
    cases hb : Nat.beq j k with
    | false => rfl
    | true => exact absurd (Nat.eq_of_beq_eq_true hb) hne
  simp only [hb, hun, hj, hk, Bool.false_or, Bool.or_eq_true, Bool.and_eq_true] at h1
  rcases h1 with (h1 | h1) | h1
  · have h2 := hno 1
    simp only [waitsF, hj] at h2
    obtain ⟨e, he, h3⟩ := List.any_eq_true.1 h1
    have h4 := List.any_eq_false.1 h2 e he
    simp only [Bool.and_eq_true] at h3
    simp [h3.1, h3.2] at h4
  · exact h1
  · rw [hno 4] at h1; cases h1

def lexH (md : Region.Mode) (ops : Array Oper) (hs : Nat → Hint) : Nat → Nat → Array Bool → Bool
  | 0, _, listed => (Region.ready md ops listed).isEmpty
  | g + 1, k, listed => (Region.ready md ops listed).contains k && freeH md ops hs listed k && lexH md ops hs g (k + 1) (listed.setIfInBounds k true)

theorem anyF_lex {P : Program} {n : Nat} {md : Region.Mode} {ops : Array Oper} {hs : Nat → Hint} {fr : Nat → Fr} {sF : SState} :
    ∀ (g k : Nat) (listed : Array Bool) (s : SState) (os : List Prop), lexH md ops hs g k listed = true →
      chainF P n ops hs fr (List.range' k g) s = some (sF, os) → All os → anyF P n md ops hs fr sF g listed s
  | 0, k, listed, s, os, hB, h, _ => by
    simp [chainF] at h
    exact ⟨by simpa [lexH] using hB, h.1⟩
  | g + 1, k, listed, s, os, hB, h, hos => by
    simp only [lexH, Bool.and_eq_true] at hB
    obtain ⟨⟨hr, hf⟩, hB'⟩ := hB
    have hr' : k ∈ Region.ready md ops listed := by simpa using hr
    obtain ⟨_, ok, hok, _⟩ := mem_ready.1 hr'
    simp only [List.range'_succ, chainF] at h
    cases h1 : stepF P n ops hs fr k s with
    | none => simp [h1] at h
    | some p =>
      obtain ⟨s', os1⟩ := p
      simp only [h1] at h
      cases h2 : chainF P n ops hs fr (List.range' (k + 1) g) s' with
      | none => simp [h2] at h
      | some p2 =>
        obtain ⟨s'', os2⟩ := p2
        simp only [h2, Option.some.injEq, Prod.mk.injEq] at h
        obtain ⟨rfl, rfl⟩ := h
        obtain ⟨g1, g2⟩ := All.append.1 hos
        exact anyF_first listed hok g listed s s' os1 (freeH_spec hok hf) (fun m f _ h => h) hr' h1 g1 (anyF_lex g (k + 1) _ s' os2 hB' h2 g2)

end Sx
