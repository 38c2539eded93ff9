/-
  The engine, part 7: contracts of calls that turn memory.
-/
import Derived.Test.YtcegkgbceogflaaSxf
set_option linter.unusedVariables false
set_option linter.unusedSimpArgs false
namespace Sx
open Go Go.RowKit

/-- These entries are so, and what is owned is apart from all others. -/
structure Good (es : List Ent) (w : World) : Prop where
  ok : ∀ e ∈ es, e.ok w
  apart : ∀ (i j : Nat) (e e' : Ent), i ≠ j → es[i]? = some e → es[j]? = some e' → e.own = true → ∀ b, e.foot b → ¬ e'.foot b

/-- What a call makes of the entries that it was handed: the first ones anew, and new ones behind them. -/
structure Turns (es es' : List Ent) (w w' : World) : Prop where
  keep : Keep (fun b => ∃ e ∈ es, e.own = true ∧ e.foot b) w w'
  ok : ∀ e ∈ es', e.ok w'
  foot : ∀ e ∈ es', ∀ b, e.foot b → w.heap.size ≤ b ∨ ∃ e0 ∈ es, e0.foot b ∧ (e.own = true → e0.own = true)
  apart : ∀ (i j : Nat) (e e' : Ent), i ≠ j → es'[i]? = some e → es'[j]? = some e' → e.own = true → ∀ b, e.foot b → ¬ e'.foot b

theorem Turns.quiet {es : List Ent} {w w' : World} (hg : Good es w) (h : Keep (fun _ => False) w w') : Turns es es w w' :=
  ⟨h.mono fun _ _ f => f.elim, fun e he => Ent.ok_of_keep h (fun _ _ f => f) (hg.ok e he), fun e he b hb => .inr ⟨e, he, hb, id⟩, hg.apart⟩

theorem Turns.nil {w w' : World} (h : Keep (fun _ => False) w w') : Turns [] [] w w' :=
  Turns.quiet ⟨(fun _ h => by cases h), (fun i j e e' _ h => by simp at h)⟩ h

theorem Turns.keep0 {es' : List Ent} {w w' : World} (h : Turns [] es' w w') : Keep (fun _ => False) w w' := h.keep.mono fun b _ ⟨e, he, _⟩ => by cases he

theorem Good.nil (w : World) : Good [] w := ⟨(fun _ h => by cases h), (fun i j e e' _ h => by simp at h)⟩

def keyed : Nat → List Ent → List (Nat × Ent)
  | _, [] => []
  | i, e :: r => (i, e) :: keyed (i + 1) r

theorem look_keyed : ∀ (l : List Ent) (i t : Nat) (v : Ent), look (keyed i l) t = some v → i ≤ t ∧ l[t - i]? = some v
  | [], i, t, v, h => by simp [keyed, look] at h
  | x :: l, i, t, v, h => by
    simp only [keyed, look] at h
    split at h
    · rename_i hb
      have := Nat.eq_of_beq_eq_true hb
      subst this
      simp at h
      subst h
      simp
    · have := look_keyed l (i + 1) t v h
      refine ⟨by omega, ?_⟩
      rw [show t - i = (t - (i + 1)) + 1 by omega, List.getElem?_cons_succ]
      exact this.2

/-- The blocks that a call may turn. -/
def mayTurn (es : List Ent) : Area := ⟨fun b => ∃ e ∈ es, e.own = true ∧ e.foot b, fun b => ∃ e ∈ es, e.foot b⟩

theorem Good.start {es : List Ent} {w : World} (h : Good es w) (i : Nat := 1) : Sat w (mayTurn es) (look (keyed i es)) w := by
  refine ⟨Keep.refl _ _, fun k e hk => ?_, fun k e hk ho b hb => ?_, fun k k' e e' hne hk hk' ho b hb => ?_, fun k e hk b hb => .inr ⟨e, List.mem_of_getElem? (look_keyed es i k e hk).2, hb⟩⟩
  · exact h.ok e (List.mem_of_getElem? (look_keyed es i k e hk).2)
  · exact .inr ⟨e, List.mem_of_getElem? (look_keyed es i k e hk).2, ho, hb⟩
  · obtain ⟨h1, h2⟩ := look_keyed es i k e hk
    obtain ⟨h3, h4⟩ := look_keyed es i k' e' hk'
    exact h.apart (k - i) (k' - i) e e' (by omega) h2 h4 ho b hb

/-- What a call has come to, read off its last state: the entries 'es'' lie under the keys 'ks'. -/
theorem Sat.turned {es es' : List Ent} {w w' : World} {m : Mem} {ks : List Nat} (h : Sat w (mayTurn es) m w') (hnd : ks.Nodup) (hm : ks.map m = es'.map some)
    (hro : ∀ e ∈ es', e.own = true ∨ e ∈ es) : Turns es es' w w' := by
  have hat : ∀ (i : Nat) (e : Ent), es'[i]? = some e → ∃ k, ks[i]? = some k ∧ m k = some e := fun i e hi => by
    have h1 : (ks.map m)[i]? = some (some e) := by rw [hm]; simp [hi]
    rw [List.getElem?_map] at h1
    cases hk : ks[i]? with
    | none => simp [hk] at h1
    | some k => simp [hk] at h1; exact ⟨k, rfl, h1⟩
  refine ⟨h.keep, fun e he => ?_, fun e he b hb => ?_, fun i j e e' hne hi hj ho b hb => ?_⟩
  · obtain ⟨i, hi⟩ := List.getElem?_of_mem he
    obtain ⟨k, _, hk⟩ := hat i e hi
    exact h.ok k e hk
  · obtain ⟨i, hi⟩ := List.getElem?_of_mem he
    obtain ⟨k, _, hk⟩ := hat i e hi
    rcases hro e he with ho | hin
    · rcases h.mine k e hk ho b hb with h1 | ⟨e0, h0, ho0, hf0⟩
      · exact .inl h1
      · exact .inr ⟨e0, h0, hf0, fun _ => ho0⟩
    · exact .inr ⟨e, hin, hb, id⟩
  · obtain ⟨k, hki, hk⟩ := hat i e hi
    obtain ⟨k', hkj, hk'⟩ := hat j e' hj
    have hkk : k ≠ k' := fun heq => by
      subst heq
      have hil : i < ks.length := (List.getElem?_eq_some_iff.1 hki).1
      exact hne ((List.getElem?_inj hil hnd).1 (hki.trans hkj.symm))
    exact h.apart k k' e e' hkk hk hk' ho b hb

def setAll (m : Mem) : List Nat → List Ent → Mem
  | k :: ks, e :: es => setAll (upd m k (some e)) ks es
  | _, _ => m

theorem setAll_at : ∀ (ks : List Nat) (es : List Ent) (m : Mem) (t : Nat) (E : Ent), ks.length = es.length → ks.Nodup → setAll m ks es t = some E →
    (∃ i : Nat, ks[i]? = some t ∧ es[i]? = some E) ∨ (t ∉ ks ∧ m t = some E)
  | [], es, m, t, E, hl, _, h => by
    cases es with
    | nil => exact .inr ⟨by simp, h⟩
    | cons => simp at hl
  | k :: ks, [], m, t, E, hl, _, h => by simp at hl
  | k :: ks, e :: es, m, t, E, hl, hnd, h => by
    obtain ⟨hk, hnd'⟩ := List.nodup_cons.1 hnd
    simp only [setAll] at h
    rcases setAll_at ks es _ t E (by simpa using hl) hnd' h with ⟨i, h1, h2⟩ | ⟨h1, h2⟩
    · exact .inl ⟨i + 1, by simpa using h1, by simpa using h2⟩
    · by_cases hkt : k = t
      · subst hkt
        rw [upd_same] at h2
        exact .inl ⟨0, rfl, by simpa using h2⟩
      · rw [upd_other _ _ hkt] at h2
        exact .inr ⟨by simp [h1, Ne.symm hkt], h2⟩

/-- A call has turned the entries under the keys 'ks' and laid new ones under the keys 'nk'. -/
theorem Sat.turns {w0 : World} {S : Area} {m : Mem} {w w' : World} (h : Sat w0 S m w) {ks nk : List Nat} {es es' : List Ent} (hnd : (ks ++ nk).Nodup) (hm : ks.map m = es.map some)
    (hlen : (ks ++ nk).length = es'.length) (hnk : ∀ k ∈ nk, m k = none) (ht : Turns es es' w w') : Sat w0 S (setAll m (ks ++ nk) es') w' := by
  have hold : ∀ e0 ∈ es, ∃ k ∈ ks, m k = some e0 := fun e0 he => by
    obtain ⟨i, hi⟩ := List.getElem?_of_mem he
    have h1 : (ks.map m)[i]? = some (some e0) := by rw [hm]; simp [hi]
    rw [List.getElem?_map] at h1
    cases hk : ks[i]? with
    | none => simp [hk] at h1
    | some k => simp [hk] at h1; exact ⟨k, List.mem_of_getElem? hk, h1⟩
  refine ⟨h.keep.trans ht.keep (fun b hb ⟨e, he, ho, hf⟩ => ?_), fun t E hE => ?_, fun t E hE ho b hb => ?_, fun t t' E E' hne hE hE' ho b hb hb' => ?_, fun t E hE b hb => ?_⟩
  · obtain ⟨k, _, hk⟩ := hold e he
    rcases h.mine k e hk ho b hf with h1 | h1
    · omega
    · exact h1
  · rcases setAll_at _ _ m t E hlen hnd hE with ⟨i, h1, h2⟩ | ⟨h1, h2⟩
    · exact ht.ok E (List.mem_of_getElem? h2)
    · refine Ent.ok_of_keep ht.keep (fun b hb ⟨e, he, ho, hf⟩ => ?_) (h.ok t E h2)
      obtain ⟨k, hk1, hk⟩ := hold e he
      have : k ≠ t := fun e => h1 (e ▸ List.mem_append.2 (.inl hk1))
      exact h.apart k t e E this hk h2 ho b hf hb
  · rcases setAll_at _ _ m t E hlen hnd hE with ⟨i, h1, h2⟩ | ⟨h1, h2⟩
    · rcases ht.foot E (List.mem_of_getElem? h2) b hb with h3 | ⟨e0, h3, h4, h5⟩
      · exact .inl (Nat.le_trans h.keep.size h3)
      · obtain ⟨k, _, hk⟩ := hold e0 h3
        exact h.mine k e0 hk (h5 ho) b h4
    · exact h.mine t E h2 ho b hb
  · rcases setAll_at _ _ m t E hlen hnd hE with ⟨i, h1, h2⟩ | ⟨h1, h2⟩
    · rcases setAll_at _ _ m t' E' hlen hnd hE' with ⟨j, g1, g2⟩ | ⟨g1, g2⟩
      · have hij : i ≠ j := fun e => by subst e; rw [h1] at g1; cases g1; exact hne rfl
        exact ht.apart i j E E' hij h2 g2 ho b hb hb'
      · rcases ht.foot E (List.mem_of_getElem? h2) b hb with h3 | ⟨e0, h3, h4, h5⟩
        · have := (h.ok t' E' g2).2 b hb'; omega
        · obtain ⟨k, hk1, hk⟩ := hold e0 h3
          have : k ≠ t' := fun e => g1 (e ▸ List.mem_append.2 (.inl hk1))
          exact h.apart k t' e0 E' this hk g2 (h5 ho) b h4 hb'
    · rcases setAll_at _ _ m t' E' hlen hnd hE' with ⟨j, g1, g2⟩ | ⟨g1, g2⟩
      · rcases ht.foot E' (List.mem_of_getElem? g2) b hb' with h3 | ⟨e0, h3, h4, _⟩
        · have := (h.ok t E h2).2 b hb; omega
        · obtain ⟨k, hk1, hk⟩ := hold e0 h3
          have : t ≠ k := fun e => h1 (e ▸ List.mem_append.2 (.inl hk1))
          exact h.apart t k E e0 this h2 hk ho b hb h4
      · exact h.apart t t' E E' hne h2 g2 ho b hb hb'
  · rcases setAll_at _ _ m t E hlen hnd hE with ⟨i, h1, h2⟩ | ⟨h1, h2⟩
    · rcases ht.foot E (List.mem_of_getElem? h2) b hb with h3 | ⟨e0, h3, h4, h5⟩
      · exact .inl (Nat.le_trans h.keep.size h3)
      · obtain ⟨k, _, hk⟩ := hold e0 h3
        exact h.lie k e0 hk b h4
    · exact h.lie t E h2 b hb

def nodupB : List Nat → Bool
  | [] => true
  | k :: r => !(r.any (Nat.beq k)) && nodupB r
theorem nodupB_spec : ∀ {l : List Nat}, nodupB l = true → l.Nodup
  | [], _ => List.nodup_nil
  | k :: r, h => by
    simp only [nodupB, Bool.and_eq_true, Bool.not_eq_true'] at h
    refine List.nodup_cons.2 ⟨fun hk => ?_, nodupB_spec h.2⟩
    have := List.any_eq_false.1 h.1 k hk
    simp at this

/-- A call's contract: which entries it is handed, what it hands back, what it makes of them. -/
def CallT (P : Program) (g : FuncId) (args : Array Value) {X : Type} (v : X → Value) (es : List Ent) (es' : X → List Ent) : Prop :=
  ∀ w, Good es w → Calls P g args w fun e w' => ∃ x, e = .returned (v x) ∧ Turns es (es' x) w w'

theorem CallT.ok {P : Program} {g : FuncId} {args : Array Value} {v : Value} (h : CallT P g args (fun _ : Unit => v) [] (fun _ => [])) : CallOK P g args v [] :=
  fun w _ => (h w (Good.nil w)).mono fun e w' ⟨_, he, ht⟩ => ⟨he, ht.keep0⟩

/-- Numbers as rows. -/
def encI (l : List Int) : List (List Value) := l.map fun z => [.int .i64 z]

theorem encI_len (l : List Int) : l.length = (encI l).length := by simp [encI]
end Sx
