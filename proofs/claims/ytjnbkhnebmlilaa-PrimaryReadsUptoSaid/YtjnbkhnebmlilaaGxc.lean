/-
  Models, part 3: plain facts on loops, strings, bounds; what a law's walk closes with.
-/
import Derived.Test.YtjnbkhnebmlilaaGxb
set_option linter.unusedVariables false
set_option linter.unusedSimpArgs false
namespace Sx
open Go Go.RowKit

/-! ### Strings -/

theorem str_tl_inj {a b : ByteArray} (h : a.toList = b.toList) : a = b := by
  rw [ByteArray.toList_eq, ByteArray.toList_eq] at h
  obtain ⟨⟨x⟩⟩ := a
  obtain ⟨⟨y⟩⟩ := b
  simp only at h
  subst h
  rfl
theorem str_eq (a b : ByteArray) : (a == b) = (a.toList == b.toList) := by
  rw [ByteArray.toList_eq, ByteArray.toList_eq]
  obtain ⟨⟨x⟩⟩ := a
  obtain ⟨⟨y⟩⟩ := b
  show ((⟨x⟩ : Array UInt8) == ⟨y⟩) = (x == y)
  simp
theorem str_tl (a b : ByteArray) : (a.toList == b.toList) = true ↔ a = b := by
  rw [beq_iff_eq]
  exact ⟨str_tl_inj, fun h => by rw [h]⟩
theorem str_beq (a b : ByteArray) : (a == b) = true ↔ a = b := by rw [str_eq, str_tl]
/-! ### Loops -/

theorem loop_filter {α ρ : Type} (p : α → Bool) (by_ : Nat) (fin : Nat → List α → Option ρ) : ∀ (l : List α) (c : Nat) (acc : List α), App (acc.length + l.length) by_ →
    loopL (fun nx _ x acc => bif p x then grd (App (acc.length + [x].length) by_) (nx (acc ++ [x])) else nx acc) fin l c acc = fin (c + l.length) (acc ++ l.filter p)
  | [], c, acc, h => by simp [loopL]
  | x :: l, c, acc, h => by
    simp only [loopL]
    have hle : ∀ {n m : Nat}, n ≤ m → App m by_ → App n by_ := fun hn hm => Nat.le_trans (Nat.mul_le_mul_right _ hn) hm
    have e : c + 1 + l.length = c + (x :: l).length := by simp only [List.length_cons]; omega
    cases hq : p x with
    | true =>
      have h1 : App (acc.length + [x].length) by_ := hle (by simp) h
      have ih := loop_filter p by_ fin l (c + 1) (acc ++ [x]) (by
        have e2 : (acc ++ [x]).length + l.length = acc.length + (x :: l).length := by simp only [List.length_append, List.length_cons, List.length_nil]; omega
        rw [e2]; exact h)
      rw [cond_true, grd_pos _ h1, ih, e, List.filter_cons, hq, if_pos rfl, List.append_assoc]
      rfl
    | false =>
      have ih := loop_filter p by_ fin l (c + 1) acc (hle (by simp) h)
      rw [cond_false, ih, e, List.filter_cons, hq, if_neg (by decide)]

/-- A loop that leaves by the first one that is bad. -/
theorem loop_any {α σ ρ : Type} (q : α → Bool) (r : Option ρ) (fin : Nat → σ → Option ρ) (s : σ) : ∀ (l : List α) (c : Nat),
    loopL (fun nx _ x s => bif q x then r else nx s) fin l c s = bif l.any q then r else fin (c + l.length) s
  | [], c => rfl
  | x :: l, c => by
    have ih := loop_any q r fin s l (c + 1)
    simp only [loopL, ih, List.any_cons, List.length_cons]
    cases q x with
    | true => rfl
    | false =>
      simp only [cond_false, Bool.false_or]
      rw [show c + 1 + l.length = c + (l.length + 1) by omega]

theorem loopC_congr {σ ρ : Type} {st st' : (σ → Option ρ) → Nat → σ → Option ρ} {fin : Nat → σ → Option ρ} {k c : Nat} {s : σ} (h : ∀ n c s, st n c s = st' n c s) : loopC st fin k c s = loopC st' fin k c s := by
  rw [show st = st' from funext fun n => funext fun c => funext fun s => h n c s]

theorem loopL_congr_mem {α σ ρ : Type} {st st' : (σ → Option ρ) → Nat → α → σ → Option ρ} {fin : Nat → σ → Option ρ} : ∀ {l : List α} {c : Nat} {s : σ}, (∀ n c s, ∀ x ∈ l, st n c x s = st' n c x s) → loopL st fin l c s = loopL st' fin l c s
  | [], c, s, _ => rfl
  | x :: l, c, s, h => by
    rw [loopL, loopL, h _ _ _ x (by simp)]
    congr 1
    funext s'
    exact loopL_congr_mem fun n c s y hy => h n c s y (by simp [hy])
theorem loop_any_mem {α σ ρ : Type} {step : (σ → Option ρ) → Nat → α → σ → Option ρ} (q : α → Bool) (r : Option ρ) {fin : Nat → σ → Option ρ} {s : σ} {l : List α} {c : Nat} (hs : ∀ n c x s, x ∈ l → step n c x s = bif q x then r else n s) :
    loopL step fin l c s = bif l.any q then r else fin (c + l.length) s :=
  (loopL_congr_mem (st' := fun n _ x s => bif q x then r else n s) fun n c s x hx => hs n c x s hx).trans (loop_any q r fin s l c)
/-- A loop over the places of a list. -/
theorem loopC_list {α ρ : Type} (q : α → Bool) (d : α) (r : Option ρ) (fin : Nat → Unit → Option ρ) (l : List α) : ∀ (k c : Nat), k + c = l.length →
    loopC (σ := Unit) (fun nx c _ => grd (c < l.length) (bif q (l.getD c d) then r else nx ())) fin k c () = bif (l.drop c).any q then r else fin l.length ()
  | 0, c, h => by
    have h1 : l.drop c = [] := List.drop_of_length_le (by omega)
    rw [h1, show c = l.length by omega]
    rfl
  | k + 1, c, h => by
    have hlt : c < l.length := by omega
    have hd : l.drop c = l.getD c d :: l.drop (c + 1) := by
      rw [List.drop_eq_getElem_cons hlt]; simp [List.getD, hlt]
    have ih := loopC_list q d r fin l k (c + 1) (by omega)
    rw [hd, List.any_cons]
    simp only [loopC, ih, grd_pos _ hlt]
    cases q (l.getD c d) with
    | true => rfl
    | false => rfl

/-- Does each stand behind the one ahead of it? -/
def rises {α : Type} (lt : α → α → Bool) : Option α → List α → Bool
  | _, [] => true
  | none, x :: l => rises lt (some x) l
  | some p, x :: l => lt p x && rises lt (some x) l

/-- The one ahead of a place. -/
def ahead1 {α : Type} (l : List α) (d : α) (c : Nat) : Option α := if c = 0 then none else some (l.getD (c - 1) d)

theorem ahead1_next {α : Type} {l r : List α} {x d : α} {c : Nat} (h : l.drop c = x :: r) : ahead1 l d (c + 1) = some x := by
  have : l[c]? = some x := by rw [← List.head?_drop, h]; rfl
  simp [ahead1, List.getD, this]

theorem loop_rises {α ρ : Type} (lt : α → α → Bool) (d : α) (q : α → Bool) (r : Option ρ) (fin : Nat → Unit → Option ρ) (l0 : List α) (step : (Unit → Option ρ) → Nat → α → Unit → Option ρ) (c0 : Nat)
    (hs : ∀ n c x, c0 ≤ c → c < l0.length → step n c x () = bif q x || !(match ahead1 l0 d c with | none => true | some p => lt p x) then r else n ()) : ∀ (l : List α) (c : Nat), c0 ≤ c → l0.drop c = l →
    loopL step fin l c () = bif l.any q || !(rises lt (ahead1 l0 d c) l) then r else fin (c + l.length) ()
  | [], c, _, h => by simp [loopL, rises]
  | x :: l, c, h0, h => by
    have hlt := drop_lt h
    have hx : l0.drop (c + 1) = l := drop_next h
    have ih := loop_rises lt d q r fin l0 step c0 hs l (c + 1) (by omega) hx
    have e : c + 1 + l.length = c + (x :: l).length := by simp only [List.length_cons]; omega
    rw [loopL, hs _ _ _ h0 hlt, ih, ahead1_next h, e, List.any_cons]
    have hr : rises lt (ahead1 l0 d c) (x :: l) = ((match ahead1 l0 d c with | none => true | some p => lt p x) && rises lt (some x) l) := by
      cases ahead1 l0 d c <;> simp [rises]
    rw [hr]
    cases q x <;> cases (match ahead1 l0 d c with | none => true | some p => lt p x) <;> cases l.any q <;> cases rises lt (some x) l <;> rfl

theorem Len.of {n : Nat} (h : n ≤ 9223372036854775807) : Len n := h
theorem App.of {n b : Nat} (h : n ≤ 33554432) (hb : b ≤ 2000000) : App n b := by
  unfold App
  calc n * (b + 1) ≤ 33554432 * (2000000 + 1) := Nat.mul_le_mul h (by omega)
    _ ≤ 70368744177664 := by decide

/-! ### The end of a law -/

def OkAll (W : World) : List Ent → Prop
  | [] => True
  | e :: r => e.ok W ∧ OkAll W r

theorem OkAll.mem {W : World} : ∀ {l : List Ent}, OkAll W l → ∀ e ∈ l, e.ok W
  | [], _, e, h => by cases h
  | a :: r, h, e, he => by
    rcases List.mem_cons.1 he with rfl | he
    · exact h.1
    · exact OkAll.mem h.2 e he

theorem CallG.law {P : Program} {g : FuncId} {args : Array Value} {ro : List Ent} (h : CallG P g args (fun _ : Unit => Value.bool true) [] ro (fun _ => [])) (W : World) (hr : OkAll W ro) :
    Calls P g args W fun e w' => e = .returned (.bool true) ∧ Keep (fun _ => False) W w' :=
  (h W ⟨(fun e he => by cases he), hr.mem, (fun i j e e' _ hi => by simp at hi), (fun e he => by cases he)⟩).mono fun e w' ⟨_, he, ht⟩ => ⟨he, ht.keep.mono fun b _ ⟨e, h1, _⟩ => by cases h1⟩

end Sx
