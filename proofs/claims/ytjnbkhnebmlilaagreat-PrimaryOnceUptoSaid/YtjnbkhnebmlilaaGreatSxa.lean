/-
  The engine, part 1: what is known of slots and memory; operations run over what is known. Nothing of a program stands here.
-/
import Derived.WalkKit
set_option linter.unusedVariables false
namespace Sx
open Go Go.RowKit

/-- Every proposition of a list holds. -/
def All : List Prop → Prop
  | [] => True
  | p :: r => p ∧ All r

theorem All.append {l r : List Prop} : All (l ++ r) ↔ All l ∧ All r := by
  induction l with
  | nil => simp [All]
  | cons p l ih => simp [All, ih, and_assoc]

/-- The first one with this number. -/
def look {α : Type} : List (Nat × α) → Nat → Option α
  | [], _ => none
  | (i, x) :: r, t => match Nat.beq i t with | true => some x | false => look r t

abbrev Env := Nat → Option Value

def put (ρ : Env) (d : Option Nat) (v : Value) : Env :=
  match d with
  | none => ρ
  | some d => fun t => match Nat.beq d t with | true => some v | false => ρ t

def upd {α : Type} (m : Nat → Option α) (k : Nat) (e : Option α) : Nat → Option α :=
  fun t => match Nat.beq k t with | true => e | false => m t

theorem upd_same {α : Type} (m : Nat → Option α) (k : Nat) (e : Option α) : upd m k e k = e := by simp [upd]
theorem upd_other {α : Type} (m : Nat → Option α) {k t : Nat} (e : Option α) (h : k ≠ t) : upd m k e t = m t := by
  have : Nat.beq k t = false := by
    cases hb : Nat.beq k t with
    | false => rfl
    | true => exact absurd (Nat.eq_of_beq_eq_true hb) h
  simp [upd, this]

def val (ρ : Env) : Operand → Value
  | .tmp t => (ρ t).getD undef
  | .const v => v
  | .global g => .pointer (some ⟨g, 0, none⟩)
  | .func f => .func (.func f) #[] #[]

def knows (ρ : Env) : Operand → Bool
  | .tmp t => (ρ t).isSome
  | _ => true

/-- What is known of the slots is so. -/
structure Fits (n : Nat) (ds : List Deferred) (ρ : Env) (a : Act) : Prop where
  size : a.tmps.size = n
  defers : a.defers = ds
  slot : ∀ t v, ρ t = some v → a.tmps[t]? = some v

theorem Fits.eval {n : Nat} {ds : List Deferred} {ρ : Env} {a : Act} (h : Fits n ds ρ a) {x : Operand} (hx : knows ρ x = true) : a.eval x = val ρ x := by
  cases x with
  | tmp t =>
    simp only [knows] at hx
    obtain ⟨v, hv⟩ := Option.isSome_iff_exists.1 hx
    have := h.slot t v hv
    simp [Act.eval, val, hv, this]
  | _ => rfl

theorem Fits.put {n : Nat} {ds : List Deferred} {ρ : Env} {a : Act} (h : Fits n ds ρ a) {d : Option Nat} (hd : ∀ t, d = some t → t < n) (v : Value) : Fits n ds (Sx.put ρ d v) (a.put d v) := by
  cases d with
  | none => exact h
  | some d =>
    have hdn := hd d rfl
    refine ⟨by simp [Act.put, h.size], by simp [Act.put, h.defers], fun t u hu => ?_⟩
    simp only [Sx.put] at hu
    cases hb : Nat.beq d t with
    | true =>
      have hdt := Nat.eq_of_beq_eq_true hb
      subst hdt
      simp only [hb, Option.some.injEq] at hu
      subst hu
      simp [Act.put, h.size, hdn]
    | false =>
      simp only [hb] at hu
      have hne : d ≠ t := fun e => by subst e; simp at hb
      simp only [Act.put]
      rw [Array.getElem?_setIfInBounds_ne hne]
      exact h.slot t u hu

/-! ### Worlds -/

/-- Outside S all old blocks are as they were. -/
structure Keep (S : Nat → Prop) (w w' : World) : Prop where
  os : w'.os = w.os
  tape : w'.tape = w.tape
  output : w'.output = w.output
  size : w.heap.size ≤ w'.heap.size
  block : ∀ b, b < w.heap.size → ¬ S b → w'.heap[b]? = w.heap[b]?

theorem Keep.refl (S : Nat → Prop) (w : World) : Keep S w w := ⟨rfl, rfl, rfl, Nat.le_refl _, fun _ _ _ => rfl⟩

theorem Keep.mono {S S' : Nat → Prop} {w w' : World} (h : Keep S w w') (hs : ∀ b, b < w.heap.size → S b → S' b) : Keep S' w w' :=
  ⟨h.os, h.tape, h.output, h.size, fun b hb hn => h.block b hb fun hS => hn (hs b hb hS)⟩

theorem Keep.trans {S S' : Nat → Prop} {a b c : World} (h : Keep S a b) (h' : Keep S' b c) (hs : ∀ k, k < a.heap.size → S' k → S k) : Keep S a c :=
  ⟨h'.os.trans h.os, h'.tape.trans h.tape, h'.output.trans h.output, Nat.le_trans h.size h'.size, fun k hk hn =>
    (h'.block k (Nat.lt_of_lt_of_le hk h.size) fun hS => hn (hs k hk hS)).trans (h.block k hk hn)⟩

theorem Keep.drew {S : Nat → Prop} {a b : World} (h : Keep S a b) (n : Nat) : Keep S a { b with drawn := n } :=
  ⟨h.os, h.tape, h.output, h.size, h.block⟩

theorem Keep.cell {S : Nat → Prop} {w w' : World} (h : Keep S w w') {a : Addr} (hb : a.block < w.heap.size) (hn : ¬ S a.block) : w'.cell? a = w.cell? a := by
  simp only [World.cell?, h.block _ hb hn]

theorem Keep.below {w w' : World} (h : Keep (fun _ => False) w w') : Below w.heap.size w w' :=
  ⟨h.os, h.tape, h.output, h.size, fun k hk => h.block k hk fun f => f⟩

/-! ### What is known of memory -/

def Stable (foot : Nat → Prop) (p : World → Prop) : Prop := ∀ w w' : World, (∀ b, foot b → w'.heap[b]? = w.heap[b]?) → p w → p w'

/-- From address a on there lie rows of sz cells. -/
def RowsAt (w : World) (a : Addr) (sz : Nat) (rows : List (List Value)) : Prop :=
  ∀ i r, rows[i]? = some r → r.length = sz ∧ ∀ c v, r[c]? = some v → w.cell? ⟨a.block, a.off + (i * sz + c), none⟩ = some v

/-- The type whose rows may bear the mark of a constant's bytes (behind their last cell). -/
def byteT : TypeId := 5

/-- Block b is a row of just these cells, none of them frozen. -/
def RowIn (w : World) (b : Nat) (arr : Array Value) (T : TypeId) : Prop :=
  ∃ lo hi, w.heap[b]? = some (.cells arr T (lo, hi)) ∧ lo ≤ hi ∧ (∀ i, i < arr.size → ¬ (lo ≤ i ∧ i < hi)) ∧ (lo = hi ∨ T = byteT)

inductive Ent where
  /-- own: a block that is just these cells -/
  | cells (b : Nat) (T : TypeId) (vs : List Value)
  /-- a slice's elements, to be read -/
  | rd (ob : Option Addr) (sz : Nat) (rows : List (List Value))
  /-- own: a slice that nobody else sees, with its spare places -/
  | osl (ob : Option Addr) (cap : Nat) (T : TypeId) (sz : Nat) (rows : List (List Value))
  /-- own: a block that is no row of cells -/
  | obj (b : Nat) (o : Obj)
  /-- own: a map from strings to numbers of kind k, as pairs -/
  | map (b : Nat) (k : IntKind) (kv : List (ByteArray × Int))
  | say (own : Bool) (foot : Nat → Prop) (p : World → Prop) (st : Stable foot p)

def blk (ob : Option Addr) : Nat := (ob.getD ⟨0, 0, none⟩).block
def offs (ob : Option Addr) : Nat := (ob.getD ⟨0, 0, none⟩).off

def Ent.own : Ent → Bool
  | .cells .. | .osl .. | .obj .. | .map .. => true
  | .rd .. => false
  | .say o .. => o

/-- where an entry's block is -/
def Ent.at : Ent → Nat
  | .cells b .. | .obj b .. | .map b .. => b
  | _ => 0

def Ent.foot : Ent → Nat → Prop
  | .cells b _ _ => fun k => k = b
  | .rd ob _ rows => fun k => rows ≠ [] ∧ k = blk ob
  | .osl ob cap _ _ _ => fun k => cap ≠ 0 ∧ k = blk ob
  | .obj b _ => fun k => k = b
  | .map b _ _ => fun k => k = b
  | .say _ f _ _ => f

def Ent.holds : Ent → World → Prop
  | .cells b T vs, w => RowIn w b vs.toArray T
  | .rd ob sz rows, w => rows ≠ [] → ∃ a, ob = some a ∧ a.spot = none ∧ RowsAt w a sz rows
  | .osl ob cap T sz rows, w => rows.length ≤ cap ∧ (cap ≠ 0 → ∃ a arr, ob = some a ∧ a.spot = none ∧ RowIn w a.block arr T ∧ a.off + cap * sz ≤ arr.size ∧ RowsAt w a sz rows)
  | .obj b o, w => w.heap[b]? = some o ∧ (∀ c t f, o ≠ .cells c t f)
  | .map b k kv, w => ∃ es c, w.heap[b]? = some (.map es c) ∧ es.toList.map (fun e => (e.key, e.val)) = kv.map (fun p => (Value.string p.1, Value.int k p.2))
  | .say _ _ p _, w => p w

def Ent.ok (e : Ent) (w : World) : Prop := e.holds w ∧ ∀ b, e.foot b → b < w.heap.size

theorem RowsAt.of_same {w w' : World} {a : Addr} {sz : Nat} {rows : List (List Value)} (h : RowsAt w a sz rows) (hb : w'.heap[a.block]? = w.heap[a.block]?) : RowsAt w' a sz rows := by
  intro i r hr
  refine ⟨(h i r hr).1, fun c v hv => ?_⟩
  rw [← (h i r hr).2 c v hv]
  simp only [World.cell?, hb]

theorem RowIn.of_same {w w' : World} {b : Nat} {arr : Array Value} {T : TypeId} (h : RowIn w b arr T) (hb : w'.heap[b]? = w.heap[b]?) : RowIn w' b arr T := by
  obtain ⟨lo, hi, h1, h2⟩ := h
  exact ⟨lo, hi, hb ▸ h1, h2⟩

theorem RowIn.cell {w : World} {b : Nat} {arr : Array Value} {T : TypeId} (h : RowIn w b arr T) (i : Nat) : w.cell? ⟨b, i, none⟩ = arr[i]? := by
  obtain ⟨lo, hi, h1, _⟩ := h
  simp [World.cell?, h1]

theorem RowIn.lt {w : World} {b : Nat} {arr : Array Value} {T : TypeId} (h : RowIn w b arr T) : b < w.heap.size := by
  obtain ⟨lo, hi, h1, _⟩ := h
  exact (Array.getElem?_eq_some_iff.1 h1).1

theorem Ent.holds_of_same {e : Ent} {w w' : World} (h : ∀ b, e.foot b → w'.heap[b]? = w.heap[b]?) (hw : e.holds w) : e.holds w' := by
  cases e with
  | cells b T vs => exact RowIn.of_same hw (h b rfl)
  | rd ob sz rows =>
    intro hne
    obtain ⟨a, rfl, hs, hr⟩ := hw hne
    exact ⟨a, rfl, hs, hr.of_same (h _ ⟨hne, rfl⟩)⟩
  | osl ob cap T sz rows =>
    refine ⟨hw.1, fun hc => ?_⟩
    obtain ⟨a, arr, rfl, hs, hb, hsz, hr⟩ := hw.2 hc
    have := h a.block ⟨hc, rfl⟩
    exact ⟨a, arr, rfl, hs, hb.of_same this, hsz, hr.of_same this⟩
  | obj b o => simp only [Ent.holds] at *; rw [h b rfl]; exact hw
  | map b k kv => simp only [Ent.holds] at *; rw [h b rfl]; exact hw
  | say o f p st => exact st w w' h hw

theorem Ent.ok_of_keep {e : Ent} {S : Nat → Prop} {w w' : World} (h : Keep S w w') (hs : ∀ b, e.foot b → ¬ S b) (hw : e.ok w) : e.ok w' :=
  ⟨Ent.holds_of_same (fun b hb => h.block b (hw.2 b hb) (hs b hb)) hw.1, fun b hb => Nat.lt_of_lt_of_le (hw.2 b hb) h.size⟩

abbrev Mem := Nat → Option Ent

/-- The blocks that a call may turn, and those in which what it reads may lie. -/
structure Area where
  turn : Nat → Prop
  lie : Nat → Prop

/-- The world w, come from w0, is as the entries say; of old blocks only those of S may have turned. -/
structure Sat (w0 : World) (S : Area) (m : Mem) (w : World) : Prop where
  keep : Keep S.turn w0 w
  ok : ∀ k e, m k = some e → e.ok w
  mine : ∀ k e, m k = some e → e.own = true → ∀ b, e.foot b → w0.heap.size ≤ b ∨ S.turn b
  apart : ∀ k k' e e', k ≠ k' → m k = some e → m k' = some e' → e.own = true → ∀ b, e.foot b → ¬ e'.foot b
  lie : ∀ k e, m k = some e → ∀ b, e.foot b → w0.heap.size ≤ b ∨ S.lie b

def ownFoot (e : Option Ent) (b : Nat) : Prop := ∃ E, e = some E ∧ E.own = true ∧ E.foot b

/-- What an operation that touches one entry does. -/
structure Eff (e e' : Option Ent) (w w' : World) : Prop where
  keep : Keep (ownFoot e) w w'
  ok : ∀ E, e' = some E → E.ok w'
  foot : ∀ E, e' = some E → ∀ b, E.foot b → w.heap.size ≤ b ∨ ∃ E0, e = some E0 ∧ E0.foot b ∧ (E.own = true → E0.own = true)

theorem Eff.refl {e : Option Ent} {w : World} (h : ∀ E, e = some E → E.ok w) : Eff e e w w :=
  ⟨Keep.refl _ _, h, fun E hE b hb => .inr ⟨E, hE, hb, id⟩⟩

theorem Eff.drew {e e' : Option Ent} {w w' : World} (h : Eff e e' w w') (n : Nat) : Eff e e' w { w' with drawn := n } :=
  ⟨h.keep.drew n, fun E hE => Ent.ok_of_keep ((Keep.refl (fun _ => False) w').drew n) (fun _ _ f => f) (h.ok E hE), h.foot⟩

theorem Sat.step {w0 : World} {S : Area} {m : Mem} {w w' : World} (h : Sat w0 S m w) {k : Nat} {e' : Option Ent} (he : Eff (m k) e' w w') : Sat w0 S (upd m k e') w' := by
  have hmine : ∀ b, ownFoot (m k) b → w0.heap.size ≤ b ∨ S.turn b := fun b ⟨E, hE, ho, hb⟩ => h.mine k E hE ho b hb
  refine ⟨h.keep.trans he.keep (fun b hb hS => ?_), fun j e hj => ?_, fun j e hj ho b hb => ?_, fun j j' e e2 hne hj hj' ho b hb hb' => ?_, fun j e hj b hb => ?_⟩
  · rcases hmine b hS with h1 | h1
    · omega
    · exact h1
  · by_cases hkj : k = j
    · subst hkj; rw [upd_same] at hj; exact he.ok e hj
    · rw [upd_other _ _ hkj] at hj
      exact Ent.ok_of_keep he.keep (fun b hb ⟨E, hE, ho, hb'⟩ => h.apart k j E e hkj hE hj ho b hb' hb) (h.ok j e hj)
  · by_cases hkj : k = j
    · subst hkj; rw [upd_same] at hj
      rcases he.foot e hj b hb with h1 | ⟨E0, hE0, hf, hoo⟩
      · exact .inl (Nat.le_trans h.keep.size h1)
      · exact h.mine k E0 hE0 (hoo ho) b hf
    · rw [upd_other _ _ hkj] at hj
      exact h.mine j e hj ho b hb
  · by_cases hkj : k = j
    · subst hkj
      rw [upd_same] at hj
      rw [upd_other _ _ hne] at hj'
      rcases he.foot e hj b hb with h1 | ⟨E0, hE0, hf, hoo⟩
      · have := (h.ok j' e2 hj').2 b hb'; omega
      · exact h.apart k j' E0 e2 hne hE0 hj' (hoo ho) b hf hb'
    · rw [upd_other _ _ hkj] at hj
      by_cases hkj' : k = j'
      · subst hkj'
        rw [upd_same] at hj'
        rcases he.foot e2 hj' b hb' with h1 | ⟨E0, hE0, hf, _⟩
        · have := (h.ok j e hj).2 b hb; omega
        · exact h.apart j k e E0 hne hj hE0 ho b hb hf
      · rw [upd_other _ _ hkj'] at hj'
        exact h.apart j j' e e2 hne hj hj' ho b hb hb'
  · by_cases hkj : k = j
    · subst hkj; rw [upd_same] at hj
      rcases he.foot e hj b hb with h1 | ⟨E0, hE0, hf, _⟩
      · exact .inl (Nat.le_trans h.keep.size h1)
      · exact h.lie k E0 hE0 b hf
    · rw [upd_other _ _ hkj] at hj
      exact h.lie j e hj b hb

/-- A quiet call: new blocks alone. -/
theorem Sat.keepOn {w0 : World} {S : Area} {m : Mem} {w w' : World} (h : Sat w0 S m w) (hk : Keep (fun _ => False) w w') : Sat w0 S m w' :=
  ⟨h.keep.trans hk (fun _ _ f => f.elim), fun k e he => Ent.ok_of_keep hk (fun _ _ f => f) (h.ok k e he), h.mine, h.apart, h.lie⟩

theorem Sat.drew {w0 : World} {S : Area} {m : Mem} {w : World} (h : Sat w0 S m w) (n : Nat) : Sat w0 S m { w with drawn := n } :=
  h.keepOn ((Keep.refl _ w).drew n)

/-- What is known less. -/
theorem Sat.less {w0 : World} {S : Area} {m m' : Mem} {w : World} (h : Sat w0 S m w) (hm : ∀ k e, m' k = some e → m k = some e) : Sat w0 S m' w :=
  ⟨h.keep, fun k e he => h.ok k e (hm k e he), fun k e he => h.mine k e (hm k e he), fun k k' e e' hne he he' => h.apart k k' e e' hne (hm k e he) (hm k' e' he'), fun k e he => h.lie k e (hm k e he)⟩

end Sx
