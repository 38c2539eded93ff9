/-
  Models, part 3: plain facts on loops, strings, bounds; what a law's walk closes with.
-/
import Derived.Test.YtjnbkhnebmlilaaGreatGxb
set_option linter.unusedVariables false
set_option linter.unusedSimpArgs false
namespace Sx
open Go Go.RowKit

/-! ### Strings -/

theorem str_tl_inj {a b : ByteArray} (h : a.toList = b.toList) : a = b := by
  rw [ByteArray.toList_eq, ByteArray.toList_eq] at h
  obtain ⟨⟨x⟩⟩ := a
  obtain ⟨⟨y⟩⟩ := b
  simp only at h
  subst h
  rfl
theorem str_eq (a b : ByteArray) : (a == b) = (a.toList == b.toList) := by
  rw [ByteArray.toList_eq, ByteArray.toList_eq]
  obtain ⟨⟨x⟩⟩ := a
  obtain ⟨⟨y⟩⟩ := b
  show ((⟨x⟩ : Array UInt8) == ⟨y⟩) = (x == y)
  simp
theorem str_tl (a b : ByteArray) : (a.toList == b.toList) = true ↔ a = b := by
  rw [beq_iff_eq]
  exact ⟨str_tl_inj, fun h => by rw [h]⟩
theorem str_beq (a b : ByteArray) : (a == b) = true ↔ a = b := by rw [str_eq, str_tl]
theorem lex_lt : ∀ (x y : List UInt8), Op.bytesLess x y = decide (x < y)
  | [], [] => by simp [Op.bytesLess]
  | _ :: _, [] => by simp [Op.bytesLess]
  | [], _ :: _ => by simp [Op.bytesLess]
  | a :: x, b :: y => by
    rw [Op.bytesLess, lex_lt x y]
    by_cases h : a = b
    · subst h
      simp [List.cons_lt_cons_iff]
    · by_cases h2 : a < b
      · simp [List.cons_lt_cons_iff, h, h2]
      · simp [List.cons_lt_cons_iff, h, h2]

theorem lex_irrefl (x : List UInt8) : Op.bytesLess x x = false := by
  rw [lex_lt]; exact decide_eq_false (List.lt_irrefl x)
theorem lex_trans {x y z : List UInt8} (h : Op.bytesLess x y = true) (h' : Op.bytesLess y z = true) : Op.bytesLess x z = true := by
  rw [lex_lt] at *
  exact decide_eq_true (List.lt_trans (of_decide_eq_true h) (of_decide_eq_true h'))
theorem lex_total {x y : List UInt8} (h : Op.bytesLess x y = false) (hne : x ≠ y) : Op.bytesLess y x = true := by
  rw [lex_lt] at *
  refine decide_eq_true ?_
  have h1 := of_decide_eq_false h
  rcases List.le_iff_lt_or_eq.1 (List.not_lt.1 h1) with h2 | h2
  · exact h2
  · exact absurd h2.symm hne
/-! ### Loops -/

theorem loop_eq {α : Type} (p : α → α → Bool) (hp : ∀ x y, p x y = true ↔ x = y) (l2 : List α) (d : α) : ∀ (l1 : List α) (c : Nat), c + l1.length = l2.length →
    ∃ b, loopL (σ := Unit) (fun nx c x _ => grd (c < l2.length) (bif !(p x (l2.getD c d)) then some false else nx ())) (fun _ _ => some true) l1 c () = some b ∧ (b = true ↔ l1 = l2.drop c)
  | [], c, h => ⟨true, rfl, by simp at h; simp [h]⟩
  | x :: l1, c, h => by
    simp only [List.length_cons] at h
    have hlt : c < l2.length := by omega
    have hd : l2.drop c = l2.getD c d :: l2.drop (c + 1) := by
      rw [List.drop_eq_getElem_cons hlt]; simp [List.getD, hlt]
    obtain ⟨b, hb, hbi⟩ := loop_eq p hp l2 d l1 (c + 1) (by omega)
    simp only [loopL, grd_pos _ hlt, hb]
    cases hq : p x (l2.getD c d) with
    | false =>
      refine ⟨false, rfl, ?_⟩
      simp only [Bool.false_eq_true, false_iff]
      intro he
      rw [hd] at he
      have := (hp x (l2.getD c d)).2 (List.cons.inj he).1
      rw [this] at hq; cases hq
    | true =>
      refine ⟨b, rfl, ?_⟩
      rw [hd, hbi, (hp _ _).1 hq]
      simp

/-- The same with more behind it. -/
theorem loop_eq3 {α : Type} (p : α → α → Bool) (hp : ∀ x y, p x y = true ↔ x = y) (l2 : List α) (d : α) (fin : Nat → Unit → Option Bool) : ∀ (l1 : List α) (c : Nat), c + l1.length = l2.length →
    ∃ b, loopL (σ := Unit) (fun nx c x _ => grd (c < l2.length) (bif !(p x (l2.getD c d)) then some false else nx ())) fin l1 c () = (bif b then fin l2.length () else some false) ∧ (b = true ↔ l1 = l2.drop c)
  | [], c, h => ⟨true, by simp at h; rw [h]; rfl, by simp at h; simp [h]⟩
  | x :: l1, c, h => by
    simp only [List.length_cons] at h
    have hlt : c < l2.length := by omega
    have hd : l2.drop c = l2.getD c d :: l2.drop (c + 1) := by
      rw [List.drop_eq_getElem_cons hlt]; simp [List.getD, hlt]
    obtain ⟨b, hb, hbi⟩ := loop_eq3 p hp l2 d fin l1 (c + 1) (by omega)
    simp only [loopL, grd_pos _ hlt, hb]
    cases hq : p x (l2.getD c d) with
    | false =>
      refine ⟨false, rfl, ?_⟩
      simp only [Bool.false_eq_true, false_iff]
      intro he
      rw [hd] at he
      have := (hp x (l2.getD c d)).2 (List.cons.inj he).1
      rw [this] at hq; cases hq
    | true =>
      refine ⟨b, rfl, ?_⟩
      rw [hd, hbi, (hp _ _).1 hq]
      simp

theorem loop_find {α ρ : Type} (p : α → Bool) (g : α → Option ρ) (fin : Nat → Unit → Option ρ) : ∀ (l : List α) (c : Nat),
    loopL (σ := Unit) (fun nx _ x _ => bif p x then g x else nx ()) fin l c () = (match l.find? p with | some x => g x | none => fin (c + l.length) ())
  | [], c => rfl
  | x :: l, c => by
    have ih := loop_find p g fin l (c + 1)
    simp only [loopL, ih, List.find?]
    cases p x with
    | true => rfl
    | false =>
      simp only [cond_false, List.length_cons]
      rw [show c + 1 + l.length = c + (l.length + 1) by omega]

theorem loopC_congr {σ ρ : Type} {st st' : (σ → Option ρ) → Nat → σ → Option ρ} {fin : Nat → σ → Option ρ} {k c : Nat} {s : σ} (h : ∀ n c s, st n c s = st' n c s) : loopC st fin k c s = loopC st' fin k c s := by
  rw [show st = st' from funext fun n => funext fun c => funext fun s => h n c s]

theorem beq_f {α : Type} [BEq α] [LawfulBEq α] {a b : α} (h : ¬ a = b) : (a == b) = false := by simpa using h
theorem bne_f {α : Type} [BEq α] [LawfulBEq α] {a b : α} (h : a = b) : (a != b) = false := by simpa using h
theorem bne_t {α : Type} [BEq α] [LawfulBEq α] {a b : α} (h : ¬ a = b) : (a != b) = true := by simpa using h

/-- A loop over the places of a list. -/
theorem loopC_list {α ρ : Type} (q : α → Bool) (d : α) (r : Option ρ) (fin : Nat → Unit → Option ρ) (l : List α) : ∀ (k c : Nat), k + c = l.length →
    loopC (σ := Unit) (fun nx c _ => grd (c < l.length) (bif q (l.getD c d) then r else nx ())) fin k c () = bif (l.drop c).any q then r else fin l.length ()
  | 0, c, h => by
    have h1 : l.drop c = [] := List.drop_of_length_le (by omega)
    rw [h1, show c = l.length by omega]
    rfl
  | k + 1, c, h => by
    have hlt : c < l.length := by omega
    have hd : l.drop c = l.getD c d :: l.drop (c + 1) := by
      rw [List.drop_eq_getElem_cons hlt]; simp [List.getD, hlt]
    have ih := loopC_list q d r fin l k (c + 1) (by omega)
    rw [hd, List.any_cons]
    simp only [loopC, ih, grd_pos _ hlt]
    cases q (l.getD c d) with
    | true => rfl
    | false => rfl

/-- Does each stand behind the one ahead of it? -/
def rises {α : Type} (lt : α → α → Bool) : Option α → List α → Bool
  | _, [] => true
  | none, x :: l => rises lt (some x) l
  | some p, x :: l => lt p x && rises lt (some x) l

/-- The one ahead of a place. -/
def ahead1 {α : Type} (l : List α) (d : α) (c : Nat) : Option α := if c = 0 then none else some (l.getD (c - 1) d)

theorem ahead1_next {α : Type} {l r : List α} {x d : α} {c : Nat} (h : l.drop c = x :: r) : ahead1 l d (c + 1) = some x := by
  have : l[c]? = some x := by rw [← List.head?_drop, h]; rfl
  simp [ahead1, List.getD, this]

theorem loop_rises {α ρ : Type} (lt : α → α → Bool) (d : α) (q : α → Bool) (r : Option ρ) (fin : Nat → Unit → Option ρ) (l0 : List α) (step : (Unit → Option ρ) → Nat → α → Unit → Option ρ) (c0 : Nat)
    (hs : ∀ n c x, c0 ≤ c → c < l0.length → step n c x () = bif q x || !(match ahead1 l0 d c with | none => true | some p => lt p x) then r else n ()) : ∀ (l : List α) (c : Nat), c0 ≤ c → l0.drop c = l →
    loopL step fin l c () = bif l.any q || !(rises lt (ahead1 l0 d c) l) then r else fin (c + l.length) ()
  | [], c, _, h => by simp [loopL, rises]
  | x :: l, c, h0, h => by
    have hlt := drop_lt h
    have hx : l0.drop (c + 1) = l := drop_next h
    have ih := loop_rises lt d q r fin l0 step c0 hs l (c + 1) (by omega) hx
    have e : c + 1 + l.length = c + (x :: l).length := by simp only [List.length_cons]; omega
    rw [loopL, hs _ _ _ h0 hlt, ih, ahead1_next h, e, List.any_cons]
    have hr : rises lt (ahead1 l0 d c) (x :: l) = ((match ahead1 l0 d c with | none => true | some p => lt p x) && rises lt (some x) l) := by
      cases ahead1 l0 d c <;> simp [rises]
    rw [hr]
    cases q x <;> cases (match ahead1 l0 d c with | none => true | some p => lt p x) <;> cases l.any q <;> cases rises lt (some x) l <;> rfl

theorem Len.of {n : Nat} (h : n ≤ 9223372036854775807) : Len n := h
theorem App.of {n b : Nat} (h : n ≤ 33554432) (hb : b ≤ 2000000) : App n b := by
  unfold App
  calc n * (b + 1) ≤ 33554432 * (2000000 + 1) := Nat.mul_le_mul h (by omega)
    _ ≤ 70368744177664 := by decide

/-! ### The end of a law -/

def OkAll (W : World) : List Ent → Prop
  | [] => True
  | e :: r => e.ok W ∧ OkAll W r

theorem OkAll.mem {W : World} : ∀ {l : List Ent}, OkAll W l → ∀ e ∈ l, e.ok W
  | [], _, e, h => by cases h
  | a :: r, h, e, he => by
    rcases List.mem_cons.1 he with rfl | he
    · exact h.1
    · exact OkAll.mem h.2 e he

theorem CallG.law {P : Program} {g : FuncId} {args : Array Value} {ro : List Ent} (h : CallG P g args (fun _ : Unit => Value.bool true) [] ro (fun _ => [])) (W : World) (hr : OkAll W ro) :
    Calls P g args W fun e w' => e = .returned (.bool true) ∧ Keep (fun _ => False) W w' :=
  (h W ⟨(fun e he => by cases he), hr.mem, (fun i j e e' _ hi => by simp at hi), (fun e he => by cases he)⟩).mono fun e w' ⟨_, he, ht⟩ => ⟨he, ht.keep.mono fun b _ ⟨e, h1, _⟩ => by cases h1⟩

end Sx
