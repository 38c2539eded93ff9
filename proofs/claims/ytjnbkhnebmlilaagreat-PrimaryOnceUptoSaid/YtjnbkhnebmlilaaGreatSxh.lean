/-
  The engine, part 6: small facts that the printed proofs use.
-/
import Derived.Test.YtjnbkhnebmlilaaGreatSxe
import Derived.ProofKit
import Derived.OpenShut
import Derived.ShutString
import Derived.ChangeOld
import Derived.Below
set_option linter.unusedVariables false
set_option linter.unusedSimpArgs false
namespace Sx
open Go Go.RowKit

def iand (k : IntKind) (a b : Int) : Int := k.wrap ((BitVec.ofInt k.bits a &&& BitVec.ofInt k.bits b).toNat : Int)
def ixor (k : IntKind) (a b : Int) : Int := k.wrap ((BitVec.ofInt k.bits a ^^^ BitVec.ofInt k.bits b).toNat : Int)
theorem wrap_i64 {x : Int} (h1 : -9223372036854775808 ≤ x) (h2 : x ≤ 9223372036854775807) : IntKind.i64.wrap x = x := by
  simp [IntKind.wrap, IntKind.bits, IntKind.signed]
  omega

theorem wrap_u {k : IntKind} (hk : k.signed = false) {x : Int} (h1 : 0 ≤ x) (h2 : x < 2 ^ k.bits) : k.wrap x = x := by
  unfold IntKind.wrap
  simp only [hk, Bool.false_and, Bool.false_eq_true, if_false]
  exact Int.emod_eq_of_lt h1 h2

theorem wrap_u32 {x : Int} (h1 : 0 ≤ x) (h2 : x < 4294967296) : IntKind.u32.wrap x = x := wrap_u (k := .u32) rfl h1 h2
theorem wrap_u64 {x : Int} (h1 : 0 ≤ x) (h2 : x < 18446744073709551616) : IntKind.u64.wrap x = x := wrap_u (k := .u64) rfl h1 h2

theorem Sat.start {w : World} {S : Area} : Sat w S (look []) w :=
  ⟨Keep.refl _ _, fun _ _ h => by simp [look] at h, fun _ _ h => by simp [look] at h, fun _ _ _ _ _ h => by simp [look] at h, fun _ _ h => by simp [look] at h⟩

theorem CallOK.of {P : Program} {f : FuncId} {args : Array Value} {v : Value} {es : List (Option Ent)}
    (h : ∀ w, (∀ E, some E ∈ es → E.ok w) → Calls P f args w fun e w' => e = .returned v ∧ Keep (fun _ => False) w w') : CallOK P f args v es := h

theorem bool_eq {a b : Bool} (h : a = b) : Value.bool a = Value.bool b := by rw [h]

theorem wrap_u8 {x : Int} (h1 : 0 ≤ x) (h2 : x < 256) : IntKind.u8.wrap x = x := wrap_u (k := .u8) rfl h1 h2

end Sx

set_option linter.unusedVariables false
set_option linter.unusedSimpArgs false
namespace Sx
open Go Go.RowKit

/-- These entries are so, and what is owned is apart from all others. -/
structure Good (es : List Ent) (w : World) : Prop where
  ok : ∀ e ∈ es, e.ok w
  apart : ∀ (i j : Nat) (e e' : Ent), i ≠ j → es[i]? = some e → es[j]? = some e' → e.own = true → ∀ b, e.foot b → ¬ e'.foot b

/-- What a call makes of the entries that it was handed: the first ones anew, and new ones behind them. -/
structure Turns (es es' : List Ent) (w w' : World) : Prop where
  keep : Keep (fun b => ∃ e ∈ es, e.own = true ∧ e.foot b) w w'
  ok : ∀ e ∈ es', e.ok w'
  foot : ∀ e ∈ es', ∀ b, e.foot b → w.heap.size ≤ b ∨ ∃ e0 ∈ es, e0.foot b ∧ (e.own = true → e0.own = true)
  apart : ∀ (i j : Nat) (e e' : Ent), i ≠ j → es'[i]? = some e → es'[j]? = some e' → e.own = true → ∀ b, e.foot b → ¬ e'.foot b

theorem Turns.quiet {es : List Ent} {w w' : World} (hg : Good es w) (h : Keep (fun _ => False) w w') : Turns es es w w' :=
  ⟨h.mono fun _ _ f => f.elim, fun e he => Ent.ok_of_keep h (fun _ _ f => f) (hg.ok e he), fun e he b hb => .inr ⟨e, he, hb, id⟩, hg.apart⟩

theorem Turns.nil {w w' : World} (h : Keep (fun _ => False) w w') : Turns [] [] w w' :=
  Turns.quiet ⟨(fun _ h => by cases h), (fun i j e e' _ h => by simp at h)⟩ h

theorem Turns.keep0 {es' : List Ent} {w w' : World} (h : Turns [] es' w w') : Keep (fun _ => False) w w' := h.keep.mono fun b _ ⟨e, he, _⟩ => by cases he

theorem Good.nil (w : World) : Good [] w := ⟨(fun _ h => by cases h), (fun i j e e' _ h => by simp at h)⟩

def keyed : Nat → List Ent → List (Nat × Ent)
  | _, [] => []
  | i, e :: r => (i, e) :: keyed (i + 1) r

theorem look_keyed : ∀ (l : List Ent) (i t : Nat) (v : Ent), look (keyed i l) t = some v → i ≤ t ∧ l[t - i]? = some v
  | [], i, t, v, h => by simp [keyed, look] at h
  | x :: l, i, t, v, h => by
    simp only [keyed, look] at h
    split at h
    · rename_i hb
      have := Nat.eq_of_beq_eq_true hb
      subst this
      simp at h
      subst h
      simp
    · have := look_keyed l (i + 1) t v h
      refine ⟨by omega, ?_⟩
      rw [show t - i = (t - (i + 1)) + 1 by omega, List.getElem?_cons_succ]
      exact this.2

/-- The blocks that a call may turn. -/
def mayTurn (es : List Ent) : Area := ⟨fun b => ∃ e ∈ es, e.own = true ∧ e.foot b, fun b => ∃ e ∈ es, e.foot b⟩

theorem Good.start {es : List Ent} {w : World} (h : Good es w) (i : Nat := 1) : Sat w (mayTurn es) (look (keyed i es)) w := by
  refine ⟨Keep.refl _ _, fun k e hk => ?_, fun k e hk ho b hb => ?_, fun k k' e e' hne hk hk' ho b hb => ?_, fun k e hk b hb => .inr ⟨e, List.mem_of_getElem? (look_keyed es i k e hk).2, hb⟩⟩
  · exact h.ok e (List.mem_of_getElem? (look_keyed es i k e hk).2)
  · exact .inr ⟨e, List.mem_of_getElem? (look_keyed es i k e hk).2, ho, hb⟩
  · obtain ⟨h1, h2⟩ := look_keyed es i k e hk
    obtain ⟨h3, h4⟩ := look_keyed es i k' e' hk'
    exact h.apart (k - i) (k' - i) e e' (by omega) h2 h4 ho b hb

/-- What a call has come to, read off its last state: the entries 'es'' lie under the keys 'ks'. -/
theorem Sat.turned {es es' : List Ent} {w w' : World} {m : Mem} {ks : List Nat} (h : Sat w (mayTurn es) m w') (hnd : ks.Nodup) (hm : ks.map m = es'.map some)
    (hro : ∀ e ∈ es', e.own = true ∨ e ∈ es) : Turns es es' w w' := by
  have hat : ∀ (i : Nat) (e : Ent), es'[i]? = some e → ∃ k, ks[i]? = some k ∧ m k = some e := fun i e hi => by
    have h1 : (ks.map m)[i]? = some (some e) := by rw [hm]; simp [hi]
    rw [List.getElem?_map] at h1
    cases hk : ks[i]? with
    | none => simp [hk] at h1
    | some k => simp [hk] at h1; exact ⟨k, rfl, h1⟩
  refine ⟨h.keep, fun e he => ?_, fun e he b hb => ?_, fun i j e e' hne hi hj ho b hb => ?_⟩
  · obtain ⟨i, hi⟩ := List.getElem?_of_mem he
    obtain ⟨k, _, hk⟩ := hat i e hi
    exact h.ok k e hk
  · obtain ⟨i, hi⟩ := List.getElem?_of_mem he
    obtain ⟨k, _, hk⟩ := hat i e hi
    rcases hro e he with ho | hin
    · rcases h.mine k e hk ho b hb with h1 | ⟨e0, h0, ho0, hf0⟩
      · exact .inl h1
      · exact .inr ⟨e0, h0, hf0, fun _ => ho0⟩
    · exact .inr ⟨e, hin, hb, id⟩
  · obtain ⟨k, hki, hk⟩ := hat i e hi
    obtain ⟨k', hkj, hk'⟩ := hat j e' hj
    have hkk : k ≠ k' := fun heq => by
      subst heq
      have hil : i < ks.length := (List.getElem?_eq_some_iff.1 hki).1
      exact hne ((List.getElem?_inj hil hnd).1 (hki.trans hkj.symm))
    exact h.apart k k' e e' hkk hk hk' ho b hb

def setAll (m : Mem) : List Nat → List Ent → Mem
  | k :: ks, e :: es => setAll (upd m k (some e)) ks es
  | _, _ => m

theorem setAll_at : ∀ (ks : List Nat) (es : List Ent) (m : Mem) (t : Nat) (E : Ent), ks.length = es.length → ks.Nodup → setAll m ks es t = some E →
    (∃ i : Nat, ks[i]? = some t ∧ es[i]? = some E) ∨ (t ∉ ks ∧ m t = some E)
  | [], es, m, t, E, hl, _, h => by
    cases es with
    | nil => exact .inr ⟨by simp, h⟩
    | cons => simp at hl
  | k :: ks, [], m, t, E, hl, _, h => by simp at hl
  | k :: ks, e :: es, m, t, E, hl, hnd, h => by
    obtain ⟨hk, hnd'⟩ := List.nodup_cons.1 hnd
    simp only [setAll] at h
    rcases setAll_at ks es _ t E (by simpa using hl) hnd' h with ⟨i, h1, h2⟩ | ⟨h1, h2⟩
    · exact .inl ⟨i + 1, by simpa using h1, by simpa using h2⟩
    · by_cases hkt : k = t
      · subst hkt
        rw [upd_same] at h2
        exact .inl ⟨0, rfl, by simpa using h2⟩
      · rw [upd_other _ _ hkt] at h2
        exact .inr ⟨by simp [h1, Ne.symm hkt], h2⟩

/-- A call has turned the entries under the keys 'ks' and laid new ones under the keys 'nk'. -/
theorem Sat.turns {w0 : World} {S : Area} {m : Mem} {w w' : World} (h : Sat w0 S m w) {ks nk : List Nat} {es es' : List Ent} (hnd : (ks ++ nk).Nodup) (hm : ks.map m = es.map some)
    (hlen : (ks ++ nk).length = es'.length) (hnk : ∀ k ∈ nk, m k = none) (ht : Turns es es' w w') : Sat w0 S (setAll m (ks ++ nk) es') w' := by
  have hold : ∀ e0 ∈ es, ∃ k ∈ ks, m k = some e0 := fun e0 he => by
    obtain ⟨i, hi⟩ := List.getElem?_of_mem he
    have h1 : (ks.map m)[i]? = some (some e0) := by rw [hm]; simp [hi]
    rw [List.getElem?_map] at h1
    cases hk : ks[i]? with
    | none => simp [hk] at h1
    | some k => simp [hk] at h1; exact ⟨k, List.mem_of_getElem? hk, h1⟩
  refine ⟨h.keep.trans ht.keep (fun b hb ⟨e, he, ho, hf⟩ => ?_), fun t E hE => ?_, fun t E hE ho b hb => ?_, fun t t' E E' hne hE hE' ho b hb hb' => ?_, fun t E hE b hb => ?_⟩
  · obtain ⟨k, _, hk⟩ := hold e he
    rcases h.mine k e hk ho b hf with h1 | h1
    · omega
    · exact h1
  · rcases setAll_at _ _ m t E hlen hnd hE with ⟨i, h1, h2⟩ | ⟨h1, h2⟩
    · exact ht.ok E (List.mem_of_getElem? h2)
    · refine Ent.ok_of_keep ht.keep (fun b hb ⟨e, he, ho, hf⟩ => ?_) (h.ok t E h2)
      obtain ⟨k, hk1, hk⟩ := hold e he
      have : k ≠ t := fun e => h1 (e ▸ List.mem_append.2 (.inl hk1))
      exact h.apart k t e E this hk h2 ho b hf hb
  · rcases setAll_at _ _ m t E hlen hnd hE with ⟨i, h1, h2⟩ | ⟨h1, h2⟩
    · rcases ht.foot E (List.mem_of_getElem? h2) b hb with h3 | ⟨e0, h3, h4, h5⟩
      · exact .inl (Nat.le_trans h.keep.size h3)
      · obtain ⟨k, _, hk⟩ := hold e0 h3
        exact h.mine k e0 hk (h5 ho) b h4
    · exact h.mine t E h2 ho b hb
  · rcases setAll_at _ _ m t E hlen hnd hE with ⟨i, h1, h2⟩ | ⟨h1, h2⟩
    · rcases setAll_at _ _ m t' E' hlen hnd hE' with ⟨j, g1, g2⟩ | ⟨g1, g2⟩
      · have hij : i ≠ j := fun e => by subst e; rw [h1] at g1; cases g1; exact hne rfl
        exact ht.apart i j E E' hij h2 g2 ho b hb hb'
      · rcases ht.foot E (List.mem_of_getElem? h2) b hb with h3 | ⟨e0, h3, h4, h5⟩
        · have := (h.ok t' E' g2).2 b hb'; omega
        · obtain ⟨k, hk1, hk⟩ := hold e0 h3
          have : k ≠ t' := fun e => g1 (e ▸ List.mem_append.2 (.inl hk1))
          exact h.apart k t' e0 E' this hk g2 (h5 ho) b h4 hb'
    · rcases setAll_at _ _ m t' E' hlen hnd hE' with ⟨j, g1, g2⟩ | ⟨g1, g2⟩
      · rcases ht.foot E' (List.mem_of_getElem? g2) b hb' with h3 | ⟨e0, h3, h4, _⟩
        · have := (h.ok t E h2).2 b hb; omega
        · obtain ⟨k, hk1, hk⟩ := hold e0 h3
          have : t ≠ k := fun e => h1 (e ▸ List.mem_append.2 (.inl hk1))
          exact h.apart t k E e0 this h2 hk ho b hb h4
      · exact h.apart t t' E E' hne h2 g2 ho b hb hb'
  · rcases setAll_at _ _ m t E hlen hnd hE with ⟨i, h1, h2⟩ | ⟨h1, h2⟩
    · rcases ht.foot E (List.mem_of_getElem? h2) b hb with h3 | ⟨e0, h3, h4, h5⟩
      · exact .inl (Nat.le_trans h.keep.size h3)
      · obtain ⟨k, _, hk⟩ := hold e0 h3
        exact h.lie k e0 hk b h4
    · exact h.lie t E h2 b hb

def nodupB : List Nat → Bool
  | [] => true
  | k :: r => !(r.any (Nat.beq k)) && nodupB r
theorem nodupB_spec : ∀ {l : List Nat}, nodupB l = true → l.Nodup
  | [], _ => List.nodup_nil
  | k :: r, h => by
    simp only [nodupB, Bool.and_eq_true, Bool.not_eq_true'] at h
    refine List.nodup_cons.2 ⟨fun hk => ?_, nodupB_spec h.2⟩
    have := List.any_eq_false.1 h.1 k hk
    simp at this

/-- A call's contract: which entries it is handed, what it hands back, what it makes of them. -/
def CallT (P : Program) (g : FuncId) (args : Array Value) {X : Type} (v : X → Value) (es : List Ent) (es' : X → List Ent) : Prop :=
  ∀ w, Good es w → Calls P g args w fun e w' => ∃ x, e = .returned (v x) ∧ Turns es (es' x) w w'

theorem CallT.ok {P : Program} {g : FuncId} {args : Array Value} {v : Value} (h : CallT P g args (fun _ : Unit => v) [] (fun _ => [])) : CallOK P g args v [] :=
  fun w _ => (h w (Good.nil w)).mono fun e w' ⟨_, he, ht⟩ => ⟨he, ht.keep0⟩

end Sx

set_option linter.unusedVariables false
set_option linter.unusedSimpArgs false
namespace Sx
open Go Go.RowKit

theorem Ent.osl_rd {ob : Option Addr} {cap T sz : Nat} {rows : List (List Value)} {w : World} (h : (Ent.osl ob cap T sz rows).ok w) : (Ent.rd ob sz rows).ok w := by
  have hc : rows ≠ [] → cap ≠ 0 := fun hne hc => by
    have := h.1.1
    rw [hc] at this
    exact hne (List.length_eq_zero_iff.1 (by omega))
  refine ⟨fun hne => ?_, fun b hb => h.2 b ⟨hc hb.1, hb.2⟩⟩
  obtain ⟨a, arr, h1, h2, _, _, h3⟩ := h.1.2 (hc hne)
  exact ⟨a, h1, h2, h3⟩

theorem Ent.cells_rd {b T : Nat} {vs : List Value} {w : World} (h : (Ent.cells b T vs).ok w) : (Ent.rd (some ⟨b, 0, none⟩) vs.length [vs]).ok w := by
  refine ⟨fun _ => ⟨⟨b, 0, none⟩, rfl, rfl, fun i r hr => ?_⟩, fun k hk => h.2 k hk.2⟩
  cases i with
  | succ i => simp at hr
  | zero =>
    simp only [List.getElem?_cons_zero, Option.some.injEq] at hr
    subst hr
    refine ⟨rfl, fun c v hv => ?_⟩
    have := RowIn.cell (w := w) (b := b) (arr := vs.toArray) (T := T) h.1 c
    simpa [this] using hv

theorem Ent.rd_nil {ob : Option Addr} {sz : Nat} {w : World} : (Ent.rd ob sz []).ok w := ⟨fun h => absurd rfl h, fun b hb => absurd rfl hb.1⟩
theorem Ent.osl_nil {T sz : Nat} {w : World} : (Ent.osl none 0 T sz []).ok w := ⟨⟨Nat.le_refl _, fun h => absurd rfl h⟩, fun b hb => absurd rfl hb.1⟩

/-- One more entry, that owns nothing. -/
theorem Sat.addNil {w0 : World} {S : Area} {mem mem' : List (Nat × Ent)} {w : World} {k T sz : Nat} (h : Sat w0 S (look mem) w) (hm : mem' = mem ++ [(k, .osl none 0 T sz [])]) : Sat w0 S (look mem') w := by
  subst hm
  have happ : ∀ (l : List (Nat × Ent)) (t : Nat) (e : Ent), look (l ++ [(k, .osl none 0 T sz [])]) t = some e → look l t = some e ∨ e = .osl none 0 T sz [] := by
    intro l
    induction l with
    | nil =>
      intro t e he
      simp only [List.nil_append, look] at he
      split at he
      · exact .inr (Option.some.inj he).symm
      · cases he
    | cons x l ih =>
      intro t e he
      simp only [List.cons_append, look] at he ⊢
      split at he
      · exact .inl he
      · exact ih t e he
  have nof : ∀ b, ¬ (Ent.osl none 0 T sz []).foot b := fun b hb => hb.1 rfl
  refine ⟨h.keep, fun t e he => ?_, fun t e he ho b hb => ?_, fun t t' e e' hne he he' ho b hb hb' => ?_, fun t e he b hb => ?_⟩
  · rcases happ _ _ _ he with h1 | rfl
    · exact h.ok t e h1
    · exact Ent.osl_nil
  · rcases happ _ _ _ he with h1 | rfl
    · exact h.mine t e h1 ho b hb
    · exact absurd hb (nof b)
  · rcases happ _ _ _ he with h1 | rfl
    · rcases happ _ _ _ he' with h2 | rfl
      · exact h.apart t t' e e' hne h1 h2 ho b hb hb'
      · exact nof b hb'
    · exact nof b hb
  · rcases happ _ _ _ he with h1 | rfl
    · exact h.lie t e h1 b hb
    · exact absurd hb (nof b)

/-! ### Arguments -/
section
open Go.ChangeShapes Go.WideShapes Go.ChangeAt
variable {H : Type} {enc : TypeId × Value → H} {P : Program} {w : World} {base : Nat} {spare : Nat → Bool} {held : Bool}

theorem cells?_at {w : World} {base : Nat} {a : Addr} {n : Nat} {l : List Value} (ha : a.spot = none) (h : w.cells? base a n = some l) : l.length = n ∧ ∀ c v, l[c]? = some v → w.cell? ⟨a.block, a.off + c, none⟩ = some v := by
  obtain ⟨_, h2, h3⟩ := World.cells?_some h
  refine ⟨h2, fun c v hc => ?_⟩
  have hcn : c < l.length := (List.getElem?_eq_some_iff.1 hc).1
  have := h3 c (by omega)
  rw [hc] at this
  rw [← this]
  obtain ⟨b, o, s⟩ := a
  simp only at ha
  subst ha
  simp only [Addr.add]
  split
  · rename_i hz; simp [hz]
  · rfl

/-- A slice that came in: its elements' cells lie there, each reads as its type. -/
theorem open_rows {t e : TypeId} {sz : Nat} {fuel : Nat} {cs : List Value} {x : DataW H × List MemPlace} (ht : P.underlying t = some (.slice e)) (hc : P.cellsOf e = sz) (hsz : 1 ≤ sz)
    (h : DataW.trod enc P w base spare held fuel t cs = some x) :
    ∃ (ob : Option Addr) (len cap : Nat) (rows : List (List Value)), cs = [.slice ob len cap] ∧ rows.length = len ∧ len ≤ cap ∧ cap ≤ 9223372036854775807 ∧ (Ent.rd ob sz rows).ok w ∧
      (∀ r ∈ rows, ∃ (n : Nat) (y : DataW H × List MemPlace), DataW.trod enc P w base spare held n e r = some y) ∧ (ob = none → rows = []) ∧
      (x.1 = .nil ∧ rows = [] ∨ ∃ ys zs : List (DataW H), x.1 = .slice ys zs ∧ ys.length = rows.length ∧ ∀ (i : Nat) (r : List Value), rows[i]? = some r → ∃ (n : Nat) (y : DataW H × List MemPlace), DataW.trod enc P w base spare held n e r = some y ∧ ys[i]? = some y.1) := by
  rcases DataW.trod_slice ht h with ⟨rfl, rfl⟩ | ⟨a, len, cap, elems, rest, n, _, rfl, rfl, hb, hl, hm, hlen, hel, hsp, hns⟩
  · exact ⟨none, 0, 0, [], rfl, rfl, Nat.le_refl _, by omega, Ent.rd_nil, by simp, fun _ => rfl, .inl ⟨rfl, rfl⟩⟩
  have each : ∀ i, i < len → ∃ r y, w.cells? base (a.add (i * sz)) sz = some r ∧ DataW.trod enc P w base spare held n e r = some y ∧ elems[i]? = some y := fun i hi => by
    have h1 := hel i hi
    rw [List.getElem?_eq_getElem (by omega), Option.bind_eq_some_iff, hc] at h1
    obtain ⟨r, h2, h3⟩ := h1
    exact ⟨r, _, h2, h3, List.getElem?_eq_getElem (by omega)⟩
  have hex : ∀ m, m ≤ len → ∃ rows : List (List Value), rows.length = m ∧ ∀ (i : Nat) (r : List Value), rows[i]? = some r → w.cells? base (a.add (i * sz)) sz = some r ∧ ∃ y, DataW.trod enc P w base spare held n e r = some y ∧ elems[i]? = some y := by
    intro m
    induction m with
    | zero => exact fun _ => ⟨[], rfl, by simp⟩
    | succ m ih =>
      intro hm'
      obtain ⟨rows, h1, h2⟩ := ih (by omega)
      obtain ⟨r, y, h3, h4, h5⟩ := each m (by omega)
      refine ⟨rows ++ [r], by simp [h1], fun i r' hr => ?_⟩
      rcases Nat.lt_or_ge i m with hi | hi
      · rw [List.getElem?_append_left (by omega)] at hr
        exact h2 i r' hr
      · rw [List.getElem?_append_right (by omega), List.getElem?_singleton] at hr
        split at hr
        · have : i = m := by omega
          subst this
          cases hr
          exact ⟨h3, y, h4, h5⟩
        · cases hr
  obtain ⟨rows, h1, h2⟩ := hex len (Nat.le_refl _)
  have hspot : rows ≠ [] → a.spot = none := fun hne => by
    obtain ⟨r, hr⟩ : ∃ r, rows[0]? = some r := by
      cases rows with
      | nil => exact absurd rfl hne
      | cons r _ => exact ⟨r, rfl⟩
    have h3 := (h2 0 r hr).1
    have h4 := (World.cells?_some h3).2.2 0 (by omega)
    have h5 := (World.cells?_some h3).2.1
    have h6 : ∃ v, r[0]? = some v := ⟨r[0]'(by omega), List.getElem?_eq_getElem _⟩
    obtain ⟨v, hv⟩ := h6
    rw [hv] at h4
    have := World.cell?_spot h4
    obtain ⟨b, o, s⟩ := a
    cases s with
    | none => rfl
    | some _ => simp [Addr.add] at this
  have hat : rows ≠ [] → RowsAt w a sz rows := fun hne i r hr => by
    have hs := hspot hne
    obtain ⟨b, o, s⟩ := a
    simp only at hs
    subst hs
    have h3 := cells?_at (by simp only [Addr.add]; split <;> rfl) (h2 i r hr).1
    refine ⟨h3.1, fun c v hv => ?_⟩
    have := h3.2 c v hv
    rw [← this]; congr 1; simp only [Addr.add]; split <;> simp_all [Nat.add_assoc]
  refine ⟨some a, len, cap, rows, rfl, h1, hl, by simpa [maxLen] using hm, ⟨fun hne => ⟨a, rfl, hspot hne, hat hne⟩, fun b hb => ?_⟩, fun r hr => ?_, (fun h => by cases h), .inr ⟨_, _, rfl, ?_, fun i r hr => ?_⟩⟩
  · obtain ⟨hne, rfl⟩ := hb
    obtain ⟨r, hr⟩ : ∃ r, rows[0]? = some r := by
      cases rows with
      | nil => exact absurd rfl hne
      | cons r _ => exact ⟨r, rfl⟩
    have h3 := hat hne 0 r hr
    have h6 : r[0]? = some (r[0]'(by omega)) := List.getElem?_eq_getElem _
    have := h3.2 0 _ h6
    simp only [World.cell?] at this
    split at this
    · rename_i heq
      exact (Array.getElem?_eq_some_iff.1 heq).1
    · cases this
  · obtain ⟨i, hi⟩ := List.getElem?_of_mem hr
    obtain ⟨_, y, h3, _⟩ := h2 i r hi
    exact ⟨n, y, h3⟩
  · simp [h1, hlen]
  · obtain ⟨_, y, h3, h4⟩ := h2 i r hr
    exact ⟨n, y, h3, by simp [h4]⟩

end

section
open Go.ChangeShapes Go.WideShapes Go.ChangeAt
variable {H : Type} {enc : TypeId × Value → H} {P : Program} {w : World} {base : Nat} {spare : Nat → Bool} {held : Bool}

/-- A field of what came in. -/
theorem trod_field {t : TypeId} {fs : Array Field} {fuel i off ty sz : Nat} {cs : List Value} {x : DataW H × List MemPlace} (ht : P.underlying t = some (.struct fs))
    (h : DataW.trod enc P w base spare held fuel t cs = some x) (hi : (fs[i]?).map (fun f => (f.type, f.offset)) = some (ty, off)) (hsz : P.cellsOf ty = sz) :
    ∃ (n : Nat) (y : DataW H × List MemPlace), DataW.trod enc P w base spare held n ty ((cs.drop off).take sz) = some y ∧ ∃ parts, x.1 = .agg parts ∧ y.1 ∈ parts := by
  obtain ⟨xs, n, _, hx, _, hl, h2⟩ := DataW.trod_struct ht h
  cases hf : fs[i]? with
  | none => simp [hf] at hi
  | some f =>
    simp only [hf, Option.map_some, Option.some.injEq, Prod.mk.injEq] at hi
    obtain ⟨rfl, rfl⟩ := hi
    have h3 := h2 i f hf
    have hil : i < xs.length := by rw [hl]; exact (Array.getElem?_eq_some_iff.1 hf).1
    rw [List.getElem?_eq_getElem hil, hsz] at h3
    exact ⟨n, _, h3, _, by rw [hx], List.mem_map.2 ⟨_, List.getElem_mem hil, rfl⟩⟩

end

/-- Rows that are each one's row. -/
theorem rows_dec {α : Type} (row : α → List Value) (Q : α → Prop) {rows : List (List Value)} (h : ∀ r ∈ rows, ∃ x, r = row x ∧ Q x) : ∃ l : List α, rows = l.map row ∧ ∀ x ∈ l, Q x := by
  induction rows with
  | nil => exact ⟨[], rfl, by simp⟩
  | cons r rows ih =>
    obtain ⟨l, h1, h2⟩ := ih fun q hq => h q (by simp [hq])
    obtain ⟨x, h3, h4⟩ := h r (by simp)
    refine ⟨x :: l, by rw [h1, h3]; rfl, fun z hz => ?_⟩
    rcases List.mem_cons.1 hz with rfl | hz
    · exact h4
    · exact h2 z hz

theorem wf_i64 {z : Int} (h : (Lit.int .i64 z).wf = true) : -9223372036854775808 ≤ z ∧ z ≤ 9223372036854775807 := by
  simpa [Lit.wf, IntKind.min, IntKind.max, IntKind.bits, IntKind.signed] using h

theorem wf_u64 {z : Int} (h : (Lit.int .u64 z).wf = true) : 0 ≤ z ∧ z ≤ 18446744073709551615 := by
  simpa [Lit.wf, IntKind.min, IntKind.max, IntKind.bits, IntKind.signed] using h
theorem wf_u8 {z : Int} (h : (Lit.int .u8 z).wf = true) : 0 ≤ z ∧ z ≤ 255 := by
  simpa [Lit.wf, IntKind.min, IntKind.max, IntKind.bits, IntKind.signed] using h

end Sx

