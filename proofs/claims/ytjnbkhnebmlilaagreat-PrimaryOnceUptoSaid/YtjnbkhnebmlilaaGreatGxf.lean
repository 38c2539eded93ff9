/-
  Models, part 3: plain facts on loops, strings, bounds; what a law's walk closes with.
-/
import Derived.Test.YtjnbkhnebmlilaaGreatGxb
import Derived.RangeFuncRecord
import Derived.RangeFuncLeaves
set_option linter.unusedVariables false
set_option linter.unusedSimpArgs false
namespace Sx
open Go Go.RowKit

/-! ### Strings -/

theorem str_tl_inj {a b : ByteArray} (h : a.toList = b.toList) : a = b := by
  rw [ByteArray.toList_eq, ByteArray.toList_eq] at h
  obtain ⟨⟨x⟩⟩ := a
  obtain ⟨⟨y⟩⟩ := b
  simp only at h
  subst h
  rfl
theorem str_eq (a b : ByteArray) : (a == b) = (a.toList == b.toList) := by
  rw [ByteArray.toList_eq, ByteArray.toList_eq]
  obtain ⟨⟨x⟩⟩ := a
  obtain ⟨⟨y⟩⟩ := b
  show ((⟨x⟩ : Array UInt8) == ⟨y⟩) = (x == y)
  simp
theorem str_tl (a b : ByteArray) : (a.toList == b.toList) = true ↔ a = b := by
  rw [beq_iff_eq]
  exact ⟨str_tl_inj, fun h => by rw [h]⟩
theorem str_beq (a b : ByteArray) : (a == b) = true ↔ a = b := by rw [str_eq, str_tl]
theorem lex_lt : ∀ (x y : List UInt8), Op.bytesLess x y = decide (x < y)
  | [], [] => by simp [Op.bytesLess]
  | _ :: _, [] => by simp [Op.bytesLess]
  | [], _ :: _ => by simp [Op.bytesLess]
  | a :: x, b :: y => by
    rw [Op.bytesLess, lex_lt x y]
    by_cases h : a = b
    · subst h
      simp [List.cons_lt_cons_iff]
    · by_cases h2 : a < b
      · simp [List.cons_lt_cons_iff, h, h2]
      · simp [List.cons_lt_cons_iff, h, h2]

theorem lex_irrefl (x : List UInt8) : Op.bytesLess x x = false := by
  rw [lex_lt]; exact decide_eq_false (List.lt_irrefl x)
theorem lex_trans {x y z : List UInt8} (h : Op.bytesLess x y = true) (h' : Op.bytesLess y z = true) : Op.bytesLess x z = true := by
  rw [lex_lt] at *
  exact decide_eq_true (List.lt_trans (of_decide_eq_true h) (of_decide_eq_true h'))
theorem lex_total {x y : List UInt8} (h : Op.bytesLess x y = false) (hne : x ≠ y) : Op.bytesLess y x = true := by
  rw [lex_lt] at *
  refine decide_eq_true ?_
  have h1 := of_decide_eq_false h
  rcases List.le_iff_lt_or_eq.1 (List.not_lt.1 h1) with h2 | h2
  · exact h2
  · exact absurd h2.symm hne
/-! ### Loops -/

theorem loop_eq {α : Type} (p : α → α → Bool) (hp : ∀ x y, p x y = true ↔ x = y) (l2 : List α) (d : α) : ∀ (l1 : List α) (c : Nat), c + l1.length = l2.length →
    ∃ b, loopL (σ := Unit) (fun nx c x _ => grd (c < l2.length) (bif !(p x (l2.getD c d)) then some false else nx ())) (fun _ _ => some true) l1 c () = some b ∧ (b = true ↔ l1 = l2.drop c)
  | [], c, h => ⟨true, rfl, by simp at h; simp [h]⟩
  | x :: l1, c, h => by
    simp only [List.length_cons] at h
    have hlt : c < l2.length := by omega
    have hd : l2.drop c = l2.getD c d :: l2.drop (c + 1) := by
      rw [List.drop_eq_getElem_cons hlt]; simp [List.getD, hlt]
    obtain ⟨b, hb, hbi⟩ := loop_eq p hp l2 d l1 (c + 1) (by omega)
    simp only [loopL, grd_pos _ hlt, hb]
    cases hq : p x (l2.getD c d) with
    | false =>
      refine ⟨false, rfl, ?_⟩
      simp only [Bool.false_eq_true, false_iff]
      intro he
      rw [hd] at he
      have := (hp x (l2.getD c d)).2 (List.cons.inj he).1
      rw [this] at hq; cases hq
    | true =>
      refine ⟨b, rfl, ?_⟩
      rw [hd, hbi, (hp _ _).1 hq]
      simp

/-- The same with more behind it. -/
theorem loop_eq3 {α : Type} (p : α → α → Bool) (hp : ∀ x y, p x y = true ↔ x = y) (l2 : List α) (d : α) (fin : Nat → Unit → Option Bool) : ∀ (l1 : List α) (c : Nat), c + l1.length = l2.length →
    ∃ b, loopL (σ := Unit) (fun nx c x _ => grd (c < l2.length) (bif !(p x (l2.getD c d)) then some false else nx ())) fin l1 c () = (bif b then fin l2.length () else some false) ∧ (b = true ↔ l1 = l2.drop c)
  | [], c, h => ⟨true, by simp at h; rw [h]; rfl, by simp at h; simp [h]⟩
  | x :: l1, c, h => by
    simp only [List.length_cons] at h
    have hlt : c < l2.length := by omega
    have hd : l2.drop c = l2.getD c d :: l2.drop (c + 1) := by
      rw [List.drop_eq_getElem_cons hlt]; simp [List.getD, hlt]
    obtain ⟨b, hb, hbi⟩ := loop_eq3 p hp l2 d fin l1 (c + 1) (by omega)
    simp only [loopL, grd_pos _ hlt, hb]
    cases hq : p x (l2.getD c d) with
    | false =>
      refine ⟨false, rfl, ?_⟩
      simp only [Bool.false_eq_true, false_iff]
      intro he
      rw [hd] at he
      have := (hp x (l2.getD c d)).2 (List.cons.inj he).1
      rw [this] at hq; cases hq
    | true =>
      refine ⟨b, rfl, ?_⟩
      rw [hd, hbi, (hp _ _).1 hq]
      simp

theorem loop_find {α ρ : Type} (p : α → Bool) (g : α → Option ρ) (fin : Nat → Unit → Option ρ) : ∀ (l : List α) (c : Nat),
    loopL (σ := Unit) (fun nx _ x _ => bif p x then g x else nx ()) fin l c () = (match l.find? p with | some x => g x | none => fin (c + l.length) ())
  | [], c => rfl
  | x :: l, c => by
    have ih := loop_find p g fin l (c + 1)
    simp only [loopL, ih, List.find?]
    cases p x with
    | true => rfl
    | false =>
      simp only [cond_false, List.length_cons]
      rw [show c + 1 + l.length = c + (l.length + 1) by omega]

theorem loopL_congr {α σ ρ : Type} {st st' : (σ → Option ρ) → Nat → α → σ → Option ρ} {fin : Nat → σ → Option ρ} {l : List α} {c : Nat} {s : σ} (h : ∀ n c x s, st n c x s = st' n c x s) : loopL st fin l c s = loopL st' fin l c s := by
  rw [show st = st' from funext fun n => funext fun c => funext fun x => funext fun s => h n c x s]
theorem loopC_congr {σ ρ : Type} {st st' : (σ → Option ρ) → Nat → σ → Option ρ} {fin : Nat → σ → Option ρ} {k c : Nat} {s : σ} (h : ∀ n c s, st n c s = st' n c s) : loopC st fin k c s = loopC st' fin k c s := by
  rw [show st = st' from funext fun n => funext fun c => funext fun s => h n c s]

theorem beq_f {α : Type} [BEq α] [LawfulBEq α] {a b : α} (h : ¬ a = b) : (a == b) = false := by simpa using h
theorem beq_t {α : Type} [BEq α] [LawfulBEq α] {a b : α} (h : a = b) : (a == b) = true := by simpa using h
theorem bne_f {α : Type} [BEq α] [LawfulBEq α] {a b : α} (h : a = b) : (a != b) = false := by simpa using h
theorem bne_t {α : Type} [BEq α] [LawfulBEq α] {a b : α} (h : ¬ a = b) : (a != b) = true := by simpa using h

/-- A loop over the places of a list. -/
theorem loopC_list {α ρ : Type} (q : α → Bool) (d : α) (r : Option ρ) (fin : Nat → Unit → Option ρ) (l : List α) : ∀ (k c : Nat), k + c = l.length →
    loopC (σ := Unit) (fun nx c _ => grd (c < l.length) (bif q (l.getD c d) then r else nx ())) fin k c () = bif (l.drop c).any q then r else fin l.length ()
  | 0, c, h => by
    have h1 : l.drop c = [] := List.drop_of_length_le (by omega)
    rw [h1, show c = l.length by omega]
    rfl
  | k + 1, c, h => by
    have hlt : c < l.length := by omega
    have hd : l.drop c = l.getD c d :: l.drop (c + 1) := by
      rw [List.drop_eq_getElem_cons hlt]; simp [List.getD, hlt]
    have ih := loopC_list q d r fin l k (c + 1) (by omega)
    rw [hd, List.any_cons]
    simp only [loopC, ih, grd_pos _ hlt]
    cases q (l.getD c d) with
    | true => rfl
    | false => rfl

/-- Does each stand behind the one ahead of it? -/
def rises {α : Type} (lt : α → α → Bool) : Option α → List α → Bool
  | _, [] => true
  | none, x :: l => rises lt (some x) l
  | some p, x :: l => lt p x && rises lt (some x) l

/-- The one ahead of a place. -/
def ahead1 {α : Type} (l : List α) (d : α) (c : Nat) : Option α := if c = 0 then none else some (l.getD (c - 1) d)

theorem ahead1_next {α : Type} {l r : List α} {x d : α} {c : Nat} (h : l.drop c = x :: r) : ahead1 l d (c + 1) = some x := by
  have : l[c]? = some x := by rw [← List.head?_drop, h]; rfl
  simp [ahead1, List.getD, this]

theorem loop_rises {α ρ : Type} (lt : α → α → Bool) (d : α) (q : α → Bool) (r : Option ρ) (fin : Nat → Unit → Option ρ) (l0 : List α) (step : (Unit → Option ρ) → Nat → α → Unit → Option ρ) (c0 : Nat)
    (hs : ∀ n c x, c0 ≤ c → c < l0.length → step n c x () = bif q x || !(match ahead1 l0 d c with | none => true | some p => lt p x) then r else n ()) : ∀ (l : List α) (c : Nat), c0 ≤ c → l0.drop c = l →
    loopL step fin l c () = bif l.any q || !(rises lt (ahead1 l0 d c) l) then r else fin (c + l.length) ()
  | [], c, _, h => by simp [loopL, rises]
  | x :: l, c, h0, h => by
    have hlt := drop_lt h
    have hx : l0.drop (c + 1) = l := drop_next h
    have ih := loop_rises lt d q r fin l0 step c0 hs l (c + 1) (by omega) hx
    have e : c + 1 + l.length = c + (x :: l).length := by simp only [List.length_cons]; omega
    rw [loopL, hs _ _ _ h0 hlt, ih, ahead1_next h, e, List.any_cons]
    have hr : rises lt (ahead1 l0 d c) (x :: l) = ((match ahead1 l0 d c with | none => true | some p => lt p x) && rises lt (some x) l) := by
      cases ahead1 l0 d c <;> simp [rises]
    rw [hr]
    cases q x <;> cases (match ahead1 l0 d c with | none => true | some p => lt p x) <;> cases l.any q <;> cases rises lt (some x) l <;> rfl

theorem Len.of {n : Nat} (h : n ≤ 9223372036854775807) : Len n := h
theorem App.of {n b : Nat} (h : n ≤ 33554432) (hb : b ≤ 2000000) : App n b := by
  unfold App
  calc n * (b + 1) ≤ 33554432 * (2000000 + 1) := Nat.mul_le_mul h (by omega)
    _ ≤ 70368744177664 := by decide

/-! ### The end of a law -/

def OkAll (W : World) : List Ent → Prop
  | [] => True
  | e :: r => e.ok W ∧ OkAll W r

theorem OkAll.mem {W : World} : ∀ {l : List Ent}, OkAll W l → ∀ e ∈ l, e.ok W
  | [], _, e, h => by cases h
  | a :: r, h, e, he => by
    rcases List.mem_cons.1 he with rfl | he
    · exact h.1
    · exact OkAll.mem h.2 e he

theorem CallG.law {P : Program} {g : FuncId} {args : Array Value} {ro : List Ent} (h : CallG P g args (fun _ : Unit => Value.bool true) [] ro (fun _ => [])) (W : World) (hr : OkAll W ro) :
    Calls P g args W fun e w' => e = .returned (.bool true) ∧ Keep (fun _ => False) W w' :=
  (h W ⟨(fun e he => by cases he), hr.mem, (fun i j e e' _ hi => by simp at hi), (fun e he => by cases he)⟩).mono fun e w' ⟨_, he, ht⟩ => ⟨he, ht.keep.mono fun b _ ⟨e, h1, _⟩ => by cases h1⟩

end Sx

set_option linter.unusedVariables false
set_option linter.unusedSimpArgs false
namespace Sx
open Go Go.RowKit

def aU32 (l : List Int) : List Value := l.map (Value.int .u32)
theorem amap_at (k : IntKind) {L : List Int} {i o : Nat} (h : i < L.length) (ho : o = i) : (L.map (Value.int k))[o]? = some (.int k (L.getD i 0)) := by
  subst ho
  simp [List.getElem?_eq_getElem h, List.getD]
theorem amap_at2 (k : IntKind) {pre post : List Value} {L : List Int} {i o m : Nat} (hm : pre.length = m) (h : i < L.length) (ho : o = m + i) : (pre ++ (L.map (Value.int k) ++ post))[o]? = some (.int k (L.getD i 0)) := by
  rw [List.getElem?_append_right (by omega), List.getElem?_append_left (by rw [List.length_map]; omega)]
  exact amap_at k h (by omega)
theorem splice_one {vs : List Value} {v : Value} {o : Nat} (h : o < vs.length) : splice vs o [v] = vs.set o v := by
  have := splice_cons (vs := vs) (c := o) (v := v) (r := []) (by simp; omega)
  rw [← this, splice_nil]
theorem amap_splice2 (k : IntKind) {pre post : List Value} {L : List Int} {i o m : Nat} {x : Int} (hm : pre.length = m) (h : i < L.length) (ho : o = m + i) : splice (pre ++ (L.map (Value.int k) ++ post)) o [.int k x] = pre ++ ((L.set i x).map (Value.int k) ++ post) := by
  rw [splice_one (by rw [List.length_append, List.length_append, List.length_map]; omega), List.set_append_right _ _ (by omega), List.set_append_left _ _ (by rw [List.length_map]; omega), List.map_set, show o - pre.length = i by omega]

theorem aU32_at2 {pre post : List Value} {L : List Int} {i o m : Nat} (hm : pre.length = m) (h : i < L.length) (ho : o = m + i) : (pre ++ (aU32 L ++ post))[o]? = some (.int .u32 (L.getD i 0)) := amap_at2 .u32 hm h ho
theorem splice_aU322 {pre post : List Value} {L : List Int} {i o m : Nat} {x : Int} (hm : pre.length = m) (h : i < L.length) (ho : o = m + i) : splice (pre ++ (aU32 L ++ post)) o [.int .u32 x] = pre ++ (aU32 (L.set i x) ++ post) := amap_splice2 .u32 hm h ho
theorem aU32_len {L : List Int} : (aU32 L).length = L.length := List.length_map ..
theorem Cov.trans {a b c : Ent} (h : Cov a b) (h' : Cov b c) : Cov a c :=
  ⟨fun w hw => h'.1 w (h.1 w hw), fun w hw k hk => h.2 w hw k (h'.2 w (h.1 w hw) k hk)⟩
/-- An entry that says a plain fact. -/
@[reducible] def Ent.fact (p : Prop) : Ent := .say false (fun _ => False) (fun _ => p) (fun _ _ _ h => h)
theorem Sat.addFact {w0 : World} {S : Area} {mem mem' : List (Nat × Ent)} {w : World} {k : Nat} {p : Prop} (h : Sat w0 S (look mem) w) (hm : mem' = mem ++ [(k, Ent.fact p)]) (hp : p) : Sat w0 S (look mem') w := by
  subst hm
  have happ : ∀ (l : List (Nat × Ent)) (t : Nat) (e : Ent), look (l ++ [(k, Ent.fact p)]) t = some e → look l t = some e ∨ e = Ent.fact p := by
    intro l
    induction l with
    | nil =>
      intro t e he
      simp only [List.nil_append, look] at he
      split at he
      · exact .inr (Option.some.inj he).symm
      · cases he
    | cons x l ih =>
      intro t e he
      simp only [List.cons_append, look] at he ⊢
      split at he
      · exact .inl he
      · exact ih t e he
  refine ⟨h.keep, fun t e he => ?_, fun t e he ho b hb => ?_, fun t t' e e' hne he he' ho b hb hb' => ?_, fun t e he b hb => ?_⟩
  · rcases happ _ _ _ he with h1 | rfl
    · exact h.ok t e h1
    · exact ⟨hp, fun b hb => hb.elim⟩
  · rcases happ _ _ _ he with h1 | rfl
    · exact h.mine t e h1 ho b hb
    · exact hb.elim
  · rcases happ _ _ _ he with h1 | rfl
    · rcases happ _ _ _ he' with h2 | rfl
      · exact h.apart t t' e e' hne h1 h2 ho b hb hb'
      · exact hb'.elim
    · exact hb.elim
  · rcases happ _ _ _ he with h1 | rfl
    · exact h.lie t e h1 b hb
    · exact hb.elim

end Sx

set_option linter.unusedVariables false
set_option linter.unusedSimpArgs false
namespace Sx
open Go Go.RowKit

/-! ### Turning a block that is no row -/

/-! ### Marks -/

def mark (D : Nat) : Deferred := { target := .collected D, args := #[] }
section
variable {P : Program} {b : Frame} {n : Nat} {w0 : World} {S : Area} {R : Ending → World → Prop} {k : List Item} {env : List (Nat × Value)} {mem : List (Nat × Ent)}

/-! ### In a round -/

def setKey (mem : List (Nat × Ent)) (k : Nat) (e : Ent) : List (Nat × Ent) := mem.map fun p => match Nat.beq p.1 k with | true => (p.1, e) | false => p
theorem look_setKey {mem : List (Nat × Ent)} {k : Nat} {e e0 : Ent} (h : look mem k = some e0) : look (setKey mem k e) = upd (look mem) k (some e) := by
  have key : ∀ (l : List (Nat × Ent)) (t : Nat), k ≠ t → look (setKey l k e) t = look l t := by
    intro l
    induction l with
    | nil => intro t _; rfl
    | cons p l ih =>
      intro t ht
      obtain ⟨i, x⟩ := p
      simp only [setKey, List.map_cons, look]
      cases hb : Nat.beq i k with
      | true =>
        have := Nat.eq_of_beq_eq_true hb
        subst this
        have hf : Nat.beq i t = false := by
          cases hq : Nat.beq i t with
          | false => rfl
          | true => exact absurd (Nat.eq_of_beq_eq_true hq) ht
        simp only [hf]
        exact ih t ht
      | false =>
        simp only []
        cases Nat.beq i t with
        | true => rfl
        | false => exact ih t ht
  have same : ∀ (l : List (Nat × Ent)), look l k = some e0 → look (setKey l k e) k = some e := by
    intro l
    induction l with
    | nil => intro h; simp [look] at h
    | cons p l ih =>
      obtain ⟨i, x⟩ := p
      intro h
      simp only [setKey, List.map_cons, look] at h ⊢
      cases hb : Nat.beq i k with
      | true => simp only [hb]
      | false =>
        rw [hb] at h
        simp only [hb]
        exact ih h
  funext t
  by_cases ht : k = t
  · subst ht; rw [upd_same]; exact same mem h
  · rw [upd_other _ _ ht]; exact key mem t ht

end

/-! ### Calls of 'yield' -/

section
variable {P : Program} {b : Frame} {n : Nat} {w0 : World} {S : Area} {R : Ending → World → Prop} {k : List Item} {env : List (Nat × Value)} {mem : List (Nat × Ent)} {ops : Array Oper}
end

/-! ### A bag of entries -/

def bagP (es : List Ent) (w : World) : Prop := (∀ e ∈ es, e.ok w) ∧ ∀ (i j : Nat) (e e' : Ent), i ≠ j → es[i]? = some e → es[j]? = some e' → ∀ b, e.foot b → ¬ e'.foot b
theorem bagS (es : List Ent) : Stable (fun b => ∃ e ∈ es, e.foot b) (fun w => (∀ e ∈ es, e.holds w) ∧ ∀ (i j : Nat) (e e' : Ent), i ≠ j → es[i]? = some e → es[j]? = some e' → ∀ b, e.foot b → ¬ e'.foot b) :=
  fun w w' h ⟨h1, h2⟩ => ⟨fun e he => Ent.holds_of_same (fun b hb => h b ⟨e, he, hb⟩) (h1 e he), h2⟩
/-- Several own entries as one. -/
@[reducible] def bag (es : List Ent) : Ent := .say true (fun b => ∃ e ∈ es, e.foot b) _ (bagS es)
theorem bag_ok {es : List Ent} {w : World} : (bag es).ok w ↔ bagP es w :=
  ⟨fun h => ⟨fun e he => ⟨h.1.1 e he, fun b hb => h.2 b ⟨e, he, hb⟩⟩, h.1.2⟩, fun h => ⟨⟨fun e he => (h.1 e he).1, h.2⟩, fun b ⟨e, he, hb⟩ => (h.1 e he).2 b hb⟩⟩

/-! ### The statement -/

theorem look_snoc (k : Nat) (e : Ent) : ∀ (mem : List (Nat × Ent)) (t : Nat), look (mem ++ [(k, e)]) t = match look mem t with | some x => some x | none => (match Nat.beq k t with | true => some e | false => none)
  | [], t => by simp only [List.nil_append, look]; cases Nat.beq k t <;> rfl
  | (i, x) :: mem, t => by
    rw [List.cons_append, look, look]
    cases Nat.beq i t with
    | true => rfl
    | false => exact look_snoc k e mem t
theorem look_snoc_upd {mem : List (Nat × Ent)} {k : Nat} {e : Ent} (h : look mem k = none) : look (mem ++ [(k, e)]) = upd (look mem) k (some e) := by
  funext t
  rw [look_snoc]
  unfold upd
  cases hb : Nat.beq k t with
  | true =>
    have := Nat.eq_of_beq_eq_true hb
    subst this
    rw [h]
  | false => cases look mem t <;> rfl

section
variable {P : Program} {b : Frame} {n : Nat} {w0 : World} {S : Area} {R : Ending → World → Prop} {k : List Item} {env : List (Nat × Value)} {mem : List (Nat × Ent)}
end

end Sx

set_option linter.unusedVariables false
set_option linter.unusedSimpArgs false
namespace Sx
open Go Go.RowKit

/-! ### Into a bag, and out of it -/

theorem Sat.unbag {w0 w : World} {S : Area} {m : Mem} {k : Nat} {es : List Ent} (h : Sat w0 S m w) (hk : m k = some (bag es)) (hown : es.all Ent.own = true) {nk : List Nat} (hnd : nk.Nodup) (hlen : nk.length = es.length) :
    Sat w0 S (setAll (upd m k none) nk es) w := by
  have hb := bag_ok.1 (h.ok k _ hk)
  have hat : ∀ t E, setAll (upd m k none) nk es t = some E → (∃ i, nk[i]? = some t ∧ es[i]? = some E) ∨ (t ≠ k ∧ m t = some E) := fun t E hE => by
    rcases setAll_at _ _ _ t E hlen hnd hE with ⟨i, h1, h2⟩ | ⟨h1, h2⟩
    · exact .inl ⟨i, h1, h2⟩
    · refine .inr ?_
      by_cases hkt : k = t
      · subst hkt; rw [upd_same] at h2; cases h2
      · rw [upd_other _ _ hkt] at h2; exact ⟨fun e => hkt e.symm, h2⟩
  have hin : ∀ {i : Nat} {E : Ent}, es[i]? = some E → ∀ b, E.foot b → (bag es).foot b := fun hi b hb => ⟨_, List.mem_of_getElem? hi, hb⟩
  refine ⟨h.keep, fun t E hE => ?_, fun t E hE ho b hbE => ?_, fun t t' E E' hne hE hE' ho b hbE hbE' => ?_, fun t E hE b hbE => ?_⟩
  · rcases hat t E hE with ⟨i, _, h2⟩ | ⟨_, h2⟩
    · exact hb.1 E (List.mem_of_getElem? h2)
    · exact h.ok t E h2
  · rcases hat t E hE with ⟨i, _, h2⟩ | ⟨_, h2⟩
    · exact h.mine k _ hk rfl b (hin h2 b hbE)
    · exact h.mine t E h2 ho b hbE
  · rcases hat t E hE with ⟨i, h1, h2⟩ | ⟨h1, h2⟩
    · rcases hat t' E' hE' with ⟨j, g1, g2⟩ | ⟨g1, g2⟩
      · exact hb.2 i j E E' (fun e => by subst e; rw [h1] at g1; exact hne (Option.some.inj g1)) h2 g2 b hbE hbE'
      · exact h.apart k t' _ E' (Ne.symm g1) hk g2 rfl b (hin h2 b hbE) hbE'
    · rcases hat t' E' hE' with ⟨j, g1, g2⟩ | ⟨g1, g2⟩
      · exact h.apart k t _ E (Ne.symm h1) hk h2 rfl b (hin g2 b hbE') hbE
      · exact h.apart t t' E E' hne h2 g2 ho b hbE hbE'
  · rcases hat t E hE with ⟨i, _, h2⟩ | ⟨_, h2⟩
    · exact h.lie k _ hk b (hin h2 b hbE)
    · exact h.lie t E h2 b hbE

theorem Sat.bag {w0 w : World} {S : Area} {m : Mem} {es : List Ent} {ks : List Nat} {K : Nat} (h : Sat w0 S m w) (hnd : ks.Nodup) (hm : ks.map m = es.map some) (hown : es.all Ent.own = true) :
    Sat w0 S (upd (dropKs m ks) K (some (bag es))) w := by
  have hat : ∀ (i : Nat) (e : Ent), es[i]? = some e → ∃ k, ks[i]? = some k ∧ m k = some e := fun i e hi => by
    have h1 : (ks.map m)[i]? = some (some e) := by rw [hm]; simp [hi]
    rw [List.getElem?_map] at h1
    cases hk : ks[i]? with
    | none => simp [hk] at h1
    | some k => simp [hk] at h1; exact ⟨k, rfl, h1⟩
  have hmem : ∀ e ∈ es, ∃ k, k ∈ ks ∧ m k = some e ∧ e.own = true := fun e he => by
    obtain ⟨i, hi⟩ := List.getElem?_of_mem he
    obtain ⟨k, h1, h2⟩ := hat i e hi
    exact ⟨k, List.mem_of_getElem? h1, h2, List.all_eq_true.1 hown e he⟩
  have hold : ∀ t E, upd (dropKs m ks) K (some (Sx.bag es)) t = some E → (t = K ∧ E = Sx.bag es) ∨ (t ≠ K ∧ t ∉ ks ∧ m t = some E) := fun t E hE => by
    by_cases hkt : K = t
    · subst hkt; rw [upd_same] at hE; cases hE; exact .inl ⟨rfl, rfl⟩
    · rw [upd_other _ _ hkt] at hE
      refine .inr ⟨fun e => hkt e.symm, ?_⟩
      unfold dropKs at hE
      split at hE
      · cases hE
      · rename_i hc
        exact ⟨fun hq => (by rw [List.contains_iff_mem.2 hq] at hc; cases hc), hE⟩
  refine ⟨h.keep, fun t E hE => ?_, fun t E hE ho b hb => ?_, fun t t' E E' hne hE hE' ho b hb hb' => ?_, fun t E hE b hb => ?_⟩
  · rcases hold t E hE with ⟨_, rfl⟩ | ⟨_, _, h2⟩
    · refine bag_ok.2 ⟨fun e he => ?_, fun i j e e' hij hi hj b hb hb' => ?_⟩
      · obtain ⟨k, _, h2, _⟩ := hmem e he
        exact h.ok k e h2
      · obtain ⟨k, h1, h2⟩ := hat i e hi
        obtain ⟨k', h1', h2'⟩ := hat j e' hj
        have hkk : k ≠ k' := fun heq => by
          subst heq
          have hil : i < ks.length := (List.getElem?_eq_some_iff.1 h1).1
          exact hij ((List.getElem?_inj hil hnd).1 (h1.trans h1'.symm))
        exact h.apart k k' e e' hkk h2 h2' (List.all_eq_true.1 hown e (List.mem_of_getElem? hi)) b hb hb'
    · exact h.ok t E h2
  · rcases hold t E hE with ⟨_, rfl⟩ | ⟨_, _, h2⟩
    · obtain ⟨e, he, hbe⟩ := hb
      obtain ⟨k, _, h3, h4⟩ := hmem e he
      exact h.mine k e h3 h4 b hbe
    · exact h.mine t E h2 ho b hb
  · rcases hold t E hE with ⟨q1, rfl⟩ | ⟨h1, h2, h3⟩
    · rcases hold t' E' hE' with ⟨q2, rfl⟩ | ⟨g1, g2, g3⟩
      · exact hne (q1.trans q2.symm)
      · obtain ⟨e, he, hbe⟩ := hb
        obtain ⟨k, hk, h4, h5⟩ := hmem e he
        exact h.apart k t' e E' (fun q => g2 (q ▸ hk)) h4 g3 h5 b hbe hb'
    · rcases hold t' E' hE' with ⟨q2, rfl⟩ | ⟨g1, g2, g3⟩
      · obtain ⟨e, he, hbe⟩ := hb'
        obtain ⟨k, hk, h4, h5⟩ := hmem e he
        exact h.apart k t e E (fun q => h2 (q ▸ hk)) h4 h3 h5 b hbe hb
      · exact h.apart t t' E E' hne h3 g3 ho b hb hb'
  · rcases hold t E hE with ⟨_, rfl⟩ | ⟨_, _, h2⟩
    · obtain ⟨e, he, hbe⟩ := hb
      obtain ⟨k, _, h3, _⟩ := hmem e he
      exact h.lie k e h3 b hbe
    · exact h.lie t E h2 b hb

theorem TurnsG.bag {own ro es' : List Ent} {w w' : World} (h : TurnsG own ro es' w w') (hown : es'.all Ent.own = true) : TurnsG own ro [Sx.bag es'] w w' := by
  refine ⟨h.keep, fun e he => ?_, fun e he b hb => ?_, fun i j e e' hne hi hj => ?_⟩
  · rw [List.mem_singleton.1 he]
    exact bag_ok.2 ⟨h.ok, fun i j e e' hij hi hj => h.apart i j e e' hij hi hj (List.all_eq_true.1 hown e (List.mem_of_getElem? hi))⟩
  · rw [List.mem_singleton.1 he] at hb
    obtain ⟨e1, h1, h2⟩ := hb
    rcases h.foot e1 h1 b h2 with h3 | ⟨e0, h3 | ⟨h3, _⟩, h4⟩
    · exact .inl h3
    · exact .inr ⟨e0, .inl h3, h4⟩
    · rw [List.all_eq_true.1 hown e1 h1] at h3; cases h3
  · have h1 := (List.getElem?_eq_some_iff.1 hi).1
    have h2 := (List.getElem?_eq_some_iff.1 hj).1
    simp at h1 h2
    omega

/-! ### A round -/

/-! ### The statement, by the iterator's contract -/

theorem unbag_mem {w0 w : World} {S : Area} {mem mem' : List (Nat × Ent)} {k : Nat} {es : List Ent} {nk keys : List Nat} (hw : Sat w0 S (look mem) w) (hk : look mem k = some (bag es)) (hown : es.all Ent.own = true) (hnd : nodupB nk = true) (hlen : nk.length = es.length)
    (hmem : memOut keys (setAll (upd (look mem) k none) nk es) = some mem') : Sat w0 S (look mem') w :=
  (hw.unbag hk hown (nodupB_spec hnd) hlen).less (memOut_look keys hmem)

section
variable {P : Program} {b : Frame} {n : Nat} {w0 : World} {S : Area} {R : Ending → World → Prop} {k : List Item} {env : List (Nat × Value)} {mem : List (Nat × Ent)}

end

/-! ### Several read entries as one; what comes behind the statement -/

theorem addAll_aux {es : List Ent} {ks : List Nat} {m : Mem} (hm : ks.map m = es.map some) {e : Ent} (he : e ∈ es) : ∃ k, m k = some e := by
  obtain ⟨i, hi⟩ := List.getElem?_of_mem he
  have h1 : (ks.map m)[i]? = some (some e) := by rw [hm]; simp [hi]
  rw [List.getElem?_map] at h1
  cases hk : ks[i]? with
  | none => simp [hk] at h1
  | some k => simp [hk] at h1; exact ⟨k, h1⟩

theorem Sat.addAll {w0 w : World} {S : Area} {mem mem' : List (Nat × Ent)} {es : List Ent} {k : Nat} (h : Sat w0 S (look mem) w) (ks : List Nat) (hks : ks.map (look mem) = es.map some) (hro : es.all (fun e => !e.own) = true)
    (hm : mem' = mem ++ [(k, Ent.all es)]) : Sat w0 S (look mem') w := by
  subst hm
  have hno : ∀ e ∈ es, e.own = false := fun e he => by
    have := List.all_eq_true.1 hro e he
    simpa using this
  have happ : ∀ (t : Nat) (e : Ent), look (mem ++ [(k, Ent.all es)]) t = some e → look mem t = some e ∨ e = Ent.all es := by
    intro t e he
    rw [look_snoc] at he
    split at he
    · rename_i x hx; rw [hx]; exact .inl he
    · split at he
      · exact .inr (Option.some.inj he).symm
      · cases he
  refine ⟨h.keep, fun t x he => ?_, fun t x he ho b hb => ?_, fun t t' x x' hn he he' ho b hb hb' => ?_, fun t x he b hb => ?_⟩
  · rcases happ t x he with h1 | rfl
    · exact h.ok t x h1
    · exact Ent.all_ok fun e he => (addAll_aux hks he).elim fun q hq => h.ok q e hq
  · rcases happ t x he with h1 | rfl
    · exact h.mine t x h1 ho b hb
    · cases ho
  · rcases happ t x he with h1 | rfl
    · rcases happ t' x' he' with h2 | rfl
      · exact h.apart t t' x x' hn h1 h2 ho b hb hb'
      · obtain ⟨e, he2, hbe⟩ := hb'
        obtain ⟨q, hq⟩ := addAll_aux hks he2
        have hqt : t ≠ q := fun eq => by
          rw [eq, hq] at h1
          have h3 := Option.some.inj h1
          rw [← h3, hno e he2] at ho
          cases ho
        exact h.apart t q x e hqt h1 hq ho b hb hbe
    · cases ho
  · rcases happ t x he with h1 | rfl
    · exact h.lie t x h1 b hb
    · obtain ⟨e, he2, hbe⟩ := hb
      obtain ⟨q, hq⟩ := addAll_aux hks he2
      exact h.lie q e hq b hbe

section
variable {P : Program} {b : Frame} {n : Nat} {w0 : World} {S : Area} {R : Ending → World → Prop} {k : List Item} {env : List (Nat × Value)} {mem : List (Nat × Ent)}
end

end Sx

