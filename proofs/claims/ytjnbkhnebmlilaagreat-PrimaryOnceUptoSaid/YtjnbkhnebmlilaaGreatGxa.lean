/-
  The engine, part 9: more that memory tells.
-/
import Derived.Test.YtjnbkhnebmlilaaGreatSxh
set_option linter.unusedVariables false
namespace Sx
open Go Go.RowKit

theorem look_append {l : List (Nat × Ent)} {k t : Nat} {x e : Ent} (h : look (l ++ [(k, x)]) t = some e) : look l t = some e ∨ e = x := by
  induction l with
  | nil =>
    simp only [List.nil_append, look] at h
    split at h
    · exact .inr (Option.some.inj h).symm
    · cases h
  | cons y l ih =>
    simp only [List.cons_append, look] at h ⊢
    split at h
    · exact .inl h
    · exact ih h

theorem cut_zero (ob : Option Addr) (h m sz : Nat) : Value.slice (if m = 0 then ob else ob.map (fun a => a.add (0 * sz))) (h - 0) (m - 0) = Value.slice ob h m := by
  have : ob.map (fun a => a.add (0 * sz)) = ob := by
    cases ob with
    | none => rfl
    | some a => simp [Addr.add]
  rw [this]
  simp

end Sx

set_option linter.unusedVariables false
set_option linter.unusedSimpArgs false
namespace Sx
open Go Go.RowKit

/-! ### What a model is made of -/

def grd {ρ : Type} (p : Prop) [Decidable p] (k : Option ρ) : Option ρ := if p then k else none

theorem grd_elim {ρ : Type} {p : Prop} [Decidable p] {k : Option ρ} {r : ρ} {G : Prop} (h : grd p k = some r) (c : p → k = some r → G) : G := by
  unfold grd at h
  split at h
  · rename_i hp; exact c hp h
  · cases h

theorem grd_pos {ρ : Type} {p : Prop} [Decidable p] (k : Option ρ) (h : p) : grd p k = k := by unfold grd; rw [if_pos h]

theorem br_elim {ρ : Type} {e : Bool} {A B : Option ρ} {r : ρ} {G : Prop} (h : (bif e then A else B) = some r) (c1 : e = true → A = some r → G) (c2 : e = false → B = some r → G) : G := by
  cases e with
  | true => exact c1 rfl h
  | false => exact c2 rfl h

theorem bnd_elim {α ρ : Type} {o : Option α} {k : α → Option ρ} {r : ρ} {G : Prop} (h : o.bind k = some r) (c : ∀ y, o = some y → k y = some r → G) : G := by
  cases o with
  | none => cases h
  | some y => exact c y rfl h

/-- What fits into an int. -/
def I64 (x : Int) : Prop := -9223372036854775808 ≤ x ∧ x ≤ 9223372036854775807
instance (x : Int) : Decidable (I64 x) := by unfold I64; infer_instance
theorem I64.w {x : Int} (h : I64 x) : Value.int .i64 (IntKind.i64.wrap x) = Value.int .i64 x := by rw [wrap_i64 h.1 h.2]

/-- How long a slice that is read may be. -/
def Len (n : Nat) : Prop := n ≤ 9223372036854775807
instance (n : Nat) : Decidable (Len n) := by unfold Len; infer_instance

/-- An index that is an int. -/
def Ix (i : Int) (n : Nat) : Prop := 0 ≤ i ∧ i.toNat < n
instance (i : Int) (n : Nat) : Decidable (Ix i n) := by unfold Ix; infer_instance
theorem Ix.eq {i : Int} {n : Nat} (h : Ix i n) : i = ((i.toNat : Nat) : Int) := (Int.toNat_of_nonneg h.1).symm

/-- A bound of a slice expression. -/
def Bd (i : Int) (n : Nat) : Prop := 0 ≤ i ∧ i.toNat ≤ n
instance (i : Int) (n : Nat) : Decidable (Bd i n) := by unfold Bd; infer_instance
theorem Bd.eq {i : Int} {n : Nat} (h : Bd i n) : i = ((i.toNat : Nat) : Int) := (Int.toNat_of_nonneg h.1).symm

/-- What append may come to. -/
def App (n by_ : Nat) : Prop := n * (by_ + 1) ≤ 70368744177664
instance (n m : Nat) : Decidable (App n m) := by unfold App; infer_instance

def rI (z : Int) : List Value := [.int .i64 z]
def rU64 (z : Int) : List Value := [.int .u64 z]
def rB (b : UInt8) : List Value := [.int .u8 (b.toNat : Int)]
def rS (s : ByteArray) : List Value := [.string s]

theorem mlen {α : Type} (f : α → List Value) (l : List α) : l.length = (l.map f).length := (List.length_map ..).symm
theorem mapp {α : Type} (f : α → List Value) (l m : List α) : l.map f ++ m.map f = (l ++ m).map f := (List.map_append ..).symm
theorem mset {α : Type} (f : α → List Value) (l : List α) (i : Nat) (x : α) : (l.map f).set i (f x) = (l.set i x).map f := (List.map_set ..).symm
theorem map_at {α : Type} (f : α → List Value) {l : List α} {i : Nat} (d : α) (h : i < l.length) : (l.map f)[i]? = some (f (l.getD i d)) := by
  simp [List.getElem?_eq_getElem h, List.getD]
theorem map_drop {α : Type} (f : α → List Value) {l r : List α} {i : Nat} {x : α} (h : l.drop i = x :: r) : (l.map f)[i]? = some (f x) := by
  have : l[i]? = some x := by rw [← List.head?_drop, h]; rfl
  simp [this]
theorem drop_lt {α : Type} {l r : List α} {i : Nat} {x : α} (h : l.drop i = x :: r) : i < l.length := by
  have : (l.drop i).length = r.length + 1 := by rw [h]; rfl
  rw [List.length_drop] at this
  omega
theorem drop_ge {α : Type} {l : List α} {i : Nat} (h : l.drop i = []) : l.length ≤ i := by
  have : (l.drop i).length = 0 := by rw [h]; rfl
  rw [List.length_drop] at this
  omega
theorem drop_next {α : Type} {l r : List α} {i : Nat} {x : α} (h : l.drop i = x :: r) : l.drop (i + 1) = r := by
  rw [show l.drop (i + 1) = (l.drop i).drop 1 by rw [List.drop_drop], h]; rfl
theorem drop_dec {α : Type} {l r : List α} {i : Nat} {x : α} (h : l.drop i = x :: r) : decide (((i : Nat) : Int) < ((l.length : Nat) : Int)) = true := decide_eq_true (by have := drop_lt h; omega)
theorem drop_dec0 {α : Type} {l : List α} {i : Nat} (h : l.drop i = []) : decide (((i : Nat) : Int) < ((l.length : Nat) : Int)) = false := decide_eq_false (by have := drop_ge h; omega)

theorem all_one {α : Type} (f : α → List Value) (l : List α) (h : ∀ x, (f x).all Value.oneCell' = true) : (l.map f).flatten.all Value.oneCell' = true := by
  induction l with
  | nil => rfl
  | cons x l ih => simp only [List.map_cons, List.flatten_cons, List.all_append, h x, ih, Bool.and_self]

/-! ### Contracts -/

/-- The blocks of some entries. -/
def feet (own : List Ent) : Nat → Prop := fun b => ∃ e ∈ own, e.foot b
def mayT (own ro : List Ent) : Area := ⟨feet own, feet (own ++ ro)⟩

structure GoodG (own ro : List Ent) (w : World) : Prop where
  ok : ∀ e ∈ own, e.ok w
  rok : ∀ e ∈ ro, e.ok w
  apart : ∀ (i j : Nat) (e e' : Ent), i ≠ j → own[i]? = some e → own[j]? = some e' → ∀ b, e.foot b → ¬ e'.foot b
  rapart : ∀ e ∈ own, ∀ e' ∈ ro, ∀ b, e.foot b → ¬ e'.foot b

structure TurnsG (own ro es' : List Ent) (w w' : World) : Prop where
  keep : Keep (feet own) w w'
  ok : ∀ e ∈ es', e.ok w'
  foot : ∀ e ∈ es', ∀ b, e.foot b → w.heap.size ≤ b ∨ ∃ e0, (e0 ∈ own ∨ (e.own = false ∧ e0 ∈ ro)) ∧ e0.foot b
  apart : ∀ (i j : Nat) (e e' : Ent), i ≠ j → es'[i]? = some e → es'[j]? = some e' → e.own = true → ∀ b, e.foot b → ¬ e'.foot b

/-- A call's contract: 'own': the entries that it may turn; 'ro': those that it reads; 'es'': what it hands back of those that it owned, and new ones. -/
def CallG (P : Program) (g : FuncId) (args : Array Value) {X : Type} (v : X → Value) (own ro : List Ent) (es' : X → List Ent) : Prop :=
  ∀ w, GoodG own ro w → Calls P g args w fun e w' => ∃ x, e = .returned (v x) ∧ TurnsG own ro (es' x) w w'

theorem GoodG.start {own ro : List Ent} {w : World} (h : GoodG own ro w) (hr : ro.all (fun e => !e.own) = true) : Sat w (mayT own ro) (look (keyed 1 (own ++ ro))) w := by
  have hat : ∀ k e, look (keyed 1 (own ++ ro)) k = some e → (e ∈ own ∧ own[k - 1]? = some e ∧ 1 ≤ k) ∨ (e ∈ ro ∧ e.own = false) := fun k e hk => by
    obtain ⟨h1, h2⟩ := look_keyed _ 1 k e hk
    rcases Nat.lt_or_ge (k - 1) own.length with hl | hl
    · rw [List.getElem?_append_left hl] at h2
      exact .inl ⟨List.mem_of_getElem? h2, h2, h1⟩
    · rw [List.getElem?_append_right hl] at h2
      have hm := List.mem_of_getElem? h2
      exact .inr ⟨hm, by have := List.all_eq_true.1 hr e hm; simpa using this⟩
  refine ⟨Keep.refl _ _, fun k e hk => ?_, fun k e hk ho b hb => ?_, fun k k' e e' hne hk hk' ho b hb => ?_, fun k e hk b hb => ?_⟩
  · rcases hat k e hk with h1 | h1
    · exact h.ok e h1.1
    · exact h.rok e h1.1
  · rcases hat k e hk with h1 | h1
    · exact .inr ⟨e, h1.1, hb⟩
    · rw [h1.2] at ho; cases ho
  · rcases hat k e hk with h1 | h1
    · rcases hat k' e' hk' with h2 | h2
      · exact h.apart (k - 1) (k' - 1) e e' (by omega) h1.2.1 h2.2.1 b hb
      · exact h.rapart e h1.1 e' h2.1 b hb
    · rw [h1.2] at ho; cases ho
  · rcases hat k e hk with h1 | h1
    · exact .inr ⟨e, List.mem_append.2 (.inl h1.1), hb⟩
    · exact .inr ⟨e, List.mem_append.2 (.inr h1.1), hb⟩

/-- What a call has come to. -/
theorem Sat.turnedG {own ro es' : List Ent} {w w' : World} {m : Mem} {ks : List Nat} (h : Sat w (mayT own ro) m w') (hnd : nodupB ks = true) (hm : ks.map m = es'.map some) : TurnsG own ro es' w w' := by
  have hnd := nodupB_spec hnd
  have hat : ∀ (i : Nat) (e : Ent), es'[i]? = some e → ∃ k, ks[i]? = some k ∧ m k = some e := fun i e hi => by
    have h1 : (ks.map m)[i]? = some (some e) := by rw [hm]; simp [hi]
    rw [List.getElem?_map] at h1
    cases hk : ks[i]? with
    | none => simp [hk] at h1
    | some k => simp [hk] at h1; exact ⟨k, rfl, h1⟩
  refine ⟨h.keep, fun e he => ?_, fun e he b hb => ?_, fun i j e e' hne hi hj ho b hb => ?_⟩
  · obtain ⟨i, hi⟩ := List.getElem?_of_mem he
    obtain ⟨k, _, hk⟩ := hat i e hi
    exact h.ok k e hk
  · obtain ⟨i, hi⟩ := List.getElem?_of_mem he
    obtain ⟨k, _, hk⟩ := hat i e hi
    cases ho : e.own with
    | true =>
      rcases h.mine k e hk ho b hb with h1 | ⟨e0, h0, hf0⟩
      · exact .inl h1
      · exact .inr ⟨e0, .inl h0, hf0⟩
    | false =>
      rcases h.lie k e hk b hb with h1 | ⟨e0, h0, hf0⟩
      · exact .inl h1
      · rcases List.mem_append.1 h0 with h2 | h2
        · exact .inr ⟨e0, .inl h2, hf0⟩
        · exact .inr ⟨e0, .inr ⟨rfl, h2⟩, hf0⟩
  · obtain ⟨k, hki, hk⟩ := hat i e hi
    obtain ⟨k', hkj, hk'⟩ := hat j e' hj
    have hkk : k ≠ k' := fun heq => by
      subst heq
      have hil : i < ks.length := (List.getElem?_eq_some_iff.1 hki).1
      exact hne ((List.getElem?_inj hil hnd).1 (hki.trans hkj.symm))
    exact h.apart k k' e e' hkk hk hk' ho b hb

/-- What covers an entry: where it is so, the other one is too, and there it lies. -/
def Cov (E e : Ent) : Prop := (∀ w, E.ok w → e.ok w) ∧ ∀ w, E.ok w → ∀ b, e.foot b → E.foot b
theorem Cov.refl (e : Ent) : Cov e e := ⟨fun _ h => h, fun _ _ _ h => h⟩
theorem Cov.osl_rd {ob : Option Addr} {cap T sz : Nat} {rows : List (List Value)} : Cov (.osl ob cap T sz rows) (.rd ob sz rows) :=
  ⟨fun _ h => Ent.osl_rd h, fun w h b hb => ⟨fun hc => hb.1 (List.length_eq_zero_iff.1 (by have := h.1.1; rw [hc] at this; omega)), hb.2⟩⟩
theorem Cov.cells_rd {b T : Nat} {vs : List Value} : Cov (.cells b T vs) (.rd (some ⟨b, 0, none⟩) vs.length [vs]) :=
  ⟨fun _ h => Ent.cells_rd h, fun _ _ k hk => hk.2⟩
def NilE (e : Ent) : Prop := (∀ w, e.ok w) ∧ ∀ b, ¬ e.foot b
theorem NilE.rd {ob : Option Addr} {sz : Nat} : NilE (.rd ob sz []) := ⟨fun _ => Ent.rd_nil, fun b hb => hb.1 rfl⟩

/-- Ways that meet again: 'k' goes on from where they meet. -/
def jn {σ ρ : Type} (k : σ → Option ρ) (b : (σ → Option ρ) → Option ρ) : Option ρ := b k

theorem jn_elim {σ ρ : Type} {k : σ → Option ρ} {b : (σ → Option ρ) → Option ρ} {r : ρ} {G : Prop} (h : jn k b = some r) (c : ∀ J : σ → Option ρ, (∀ s, J s = k s) → b J = some r → G) : G :=
  c k (fun _ => rfl) h

/-- A loop over a list; the round is handed what goes on with the next one. -/
def loopL {α σ ρ : Type} (step : (σ → Option ρ) → Nat → α → σ → Option ρ) (fin : Nat → σ → Option ρ) : List α → Nat → σ → Option ρ
  | [], c, s => fin c s
  | x :: l, c, s => step (fun s' => loopL step fin l (c + 1) s') c x s

theorem loopL_elim {α σ ρ : Type} {step : (σ → Option ρ) → Nat → α → σ → Option ρ} {fin : Nat → σ → Option ρ} {l : List α} {c : Nat} {s : σ} {r : ρ} {G : Prop} (h : loopL step fin l c s = some r)
    (k : ∀ st fn, (∀ n c x s, st n c x s = step n c x s) → (∀ c s, fn c s = fin c s) → loopL st fn l c s = some r → G) : G := k step fin (fun _ _ _ _ => rfl) (fun _ _ => rfl) h

/-- A loop of so many rounds. -/
def loopC {σ ρ : Type} (step : (σ → Option ρ) → Nat → σ → Option ρ) (fin : Nat → σ → Option ρ) : Nat → Nat → σ → Option ρ
  | 0, c, s => fin c s
  | k + 1, c, s => step (fun s' => loopC step fin k (c + 1) s') c s

theorem loopC_elim {σ ρ : Type} {step : (σ → Option ρ) → Nat → σ → Option ρ} {fin : Nat → σ → Option ρ} {n : Nat} {c : Nat} {s : σ} {r : ρ} {G : Prop} (h : loopC step fin n c s = some r)
    (k : ∀ st fn, (∀ n c s, st n c s = step n c s) → (∀ c s, fn c s = fin c s) → loopC st fn n c s = some r → G) : G := k step fin (fun _ _ _ => rfl) (fun _ _ => rfl) h

/-- Any loop, as long as the number lasts. -/
def loopW {σ ρ : Type} (step : (σ → Option ρ) → σ → Option ρ) : Nat → σ → Option ρ
  | 0, _ => none
  | n + 1, s => step (fun s' => loopW step n s') s

theorem loopW_elim {σ ρ : Type} {step : (σ → Option ρ) → σ → Option ρ} {n : Nat} {s : σ} {r : ρ} {G : Prop} (h : loopW step n s = some r)
    (k : ∀ st, (∀ n s, st n s = step n s) → loopW st n s = some r → G) : G := k step (fun _ _ => rfl) h

theorem br_t {ρ : Type} {e : Bool} {A B o : Option ρ} (h : e = true) (hm : (bif e then A else B) = o) : A = o := by rw [h] at hm; exact hm
theorem br_f {ρ : Type} {e : Bool} {A B o : Option ρ} (h : e = false) (hm : (bif e then A else B) = o) : B = o := by rw [h] at hm; exact hm

theorem natw {c n : Nat} (h : c < n) (hn : Len n) : Value.int .i64 (IntKind.i64.wrap (((c : Nat) : Int) + 1)) = Value.int .i64 (((c + 1 : Nat)) : Int) := by
  unfold Len at hn
  rw [wrap_i64 (by omega) (by omega)]; rfl
theorem natw2 {c d : Nat} (h : Len (c + d)) : Value.int .i64 (IntKind.i64.wrap (((c : Nat) : Int) + d)) = Value.int .i64 (((c + d : Nat)) : Int) := by
  unfold Len at h
  rw [wrap_i64 (by omega) (by omega)]; push_cast; rfl
theorem natwB {c : Nat} {B : Int} (h : decide (((c : Nat) : Int) < B) = true) (hB : B ≤ 9223372036854775807) : Value.int .i64 (IntKind.i64.wrap (((c : Nat) : Int) + 1)) = Value.int .i64 (((c + 1 : Nat)) : Int) := by
  have := of_decide_eq_true h
  rw [wrap_i64 (by omega) (by omega)]; rfl
theorem cnt0 {c B : Int} (h : (B - c).toNat = 0) : decide (c < B) = false := decide_eq_false (by omega)
theorem cnt1 {c B : Int} {k : Nat} (h : (B - c).toNat = k + 1) : decide (c < B) = true := decide_eq_true (by omega)
theorem cntN {c : Nat} {B : Int} {k : Nat} (h : (B - ((c : Nat) : Int)).toNat = k + 1) : (B - (((c + 1 : Nat)) : Int)).toNat = k := by push_cast; omega
theorem absb {e : Bool} {G : Prop} (h : e = true) (h' : e = false) : G := by rw [h] at h'; cases h'

theorem appb {a b n m by_ : Nat} (h : App (n + m) by_) (h1 : a = n) (h2 : b = m) : (a + b) * (by_ + 1) ≤ 70368744177664 := by subst h1; subst h2; exact h
theorem appb0 {a m by_ : Nat} (h : App m by_) (h1 : a = m) : a * (by_ + 1) ≤ 70368744177664 := by subst h1; exact h
theorem slen {o : Option Addr} {a b c : Nat} (h : a = b) : Value.slice o a c = Value.slice o b c := by rw [h]
theorem u8_of {e : Int} (h : 0 ≤ e ∧ e < 256) : ((UInt8.ofNat e.toNat).toNat : Int) = e := by
  have : (UInt8.ofNat e.toNat).toNat = e.toNat % 256 := by simp
  omega
end Sx

