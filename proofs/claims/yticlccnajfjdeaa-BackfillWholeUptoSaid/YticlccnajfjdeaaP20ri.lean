/-
  CHAPTER 20, BackfillWhole: plain facts: is it a state?
-/
import Derived.Test.YticlccnajfjdeaaP20rh
set_option linter.unusedVariables false
set_option linter.unusedSimpArgs false
set_option maxRecDepth 100000
namespace Go.Proofs.Yticlccnajfjdeaa
open Go Go.RowKit Sx

def belowB (v : Ver) : Bool := decide (v.Epoch < 0) || decide (v.N < 0)

theorem m_refbelow (F : Nat) (v : Ver) : m_tholeref13_below F v = some (belowB v) := by
  simp only [m_tholeref13_below, belowB]; cases decide (v.Epoch < 0) <;> rfl

/-- The log's last version, if each entry is above the one ahead of it. -/
def logOk : List Ent13 → Ver → Option Ver
  | [], v => some v
  | e :: l, v => if belowB e.Version = true ∨ vcmp e.Version v ≤ 0 then none else logOk l e.Version

theorem loop_log (fin : Nat → Int × Int → Option Int) (step : (Int × Int → Option Int) → Nat → Ent13 → Int × Int → Option Int)
    (hs : ∀ n c x e f, step n c x (e, f) = bif belowB x.Version || decide (vcmp x.Version ⟨e, f⟩ ≤ 0) then some 22 else n (x.Version.Epoch, x.Version.N)) : ∀ (l : List Ent13) (c : Nat) (v : Ver),
    loopL step fin l c (v.Epoch, v.N) = match logOk l v with | none => some 22 | some u => fin (c + l.length) (u.Epoch, u.N)
  | [], c, v => rfl
  | e :: l, c, v => by
    have ih := loop_log fin step hs l (c + 1) e.Version
    have e1 : c + 1 + l.length = c + (e :: l).length := by simp only [List.length_cons]; omega
    rw [loopL, hs, ih, e1, show logOk (e :: l) v = if belowB e.Version = true ∨ vcmp e.Version v ≤ 0 then none else logOk l e.Version from rfl]
    by_cases h1 : belowB e.Version = true
    · rw [h1]; simp
    · by_cases h2 : vcmp e.Version v ≤ 0
      · rw [show decide (vcmp e.Version ⟨v.Epoch, v.N⟩ ≤ 0) = true from decide_eq_true h2]; simp [h2]
      · rw [show decide (vcmp e.Version ⟨v.Epoch, v.N⟩ ≤ 0) = false from decide_eq_false h2, show belowB e.Version = false by simpa using h1, if_neg (by simp [h1, h2])]; rfl

def nameLt (x y : Itm) : Bool := Op.bytesLess x.Name.toList y.Name.toList

def cliLt (x y : Lst) : Bool := decide (x.Client < y.Client)

def badI (at_ : Ver) (x : Itm) : Bool := !goodB x.Name || belowB x.Version || S_api_Version.beq x.Version ⟨0, 0⟩ || decide (vcmp x.Version at_ > 0)

def badL (at_ : Ver) (x : Lst) : Bool := belowB x.Version || decide (vcmp x.Version at_ > 0)

def checkF (s : Stt) : Int :=
  if s.les < 0 ∨ belowB s.tail = true ∨ s.items.length > 32 then 22 else
    match logOk s.log s.tail with
    | none => 22
    | some v => if (s.items.any (badI v) || !rises nameLt none s.items || s.lasts.any (badL v) || !rises cliLt none s.lasts) = true then 22 else 0

theorem none_any {α : Type} (l : List α) : l.any (fun _ => false) = false := by simp

/-- Bounds on what a state's names weigh. -/
def Stt.Names (s : Stt) : Prop := ∀ x ∈ s.items, x.Name.size ≤ 9223372036854775807

theorem any_congr {α : Type} {p q : α → Bool} {l : List α} (h : ∀ x ∈ l, p x = q x) : l.any p = l.any q := by
  induction l with
  | nil => rfl
  | cons x l ih => rw [List.any_cons, List.any_cons, h x (by simp), ih fun y hy => h y (by simp [hy])]

theorem loop_rises' {α ρ : Type} (lt : α → α → Bool) (d : α) (q : α → Bool) (r : Option ρ) (fin : Nat → Unit → Option ρ) (l : List α) (step : (Unit → Option ρ) → Nat → α → Unit → Option ρ)
    (hs : ∀ n c x, x ∈ l → c < l.length → step n c x () = bif q x || !(match ahead1 l d c with | none => true | some p => lt p x) then r else n ()) :
    loopL step fin l 0 () = bif l.any q || !(rises lt none l) then r else fin l.length () := by
  have h1 : loopL step fin l 0 () = loopL (fun n c x u => bif q x || !(match ahead1 l d c with | none => true | some p => lt p x) then r else n u) fin l 0 () := by
    have key : ∀ (m : List α) (c : Nat), l.drop c = m → loopL step fin m c () = loopL (fun n c x u => bif q x || !(match ahead1 l d c with | none => true | some p => lt p x) then r else n u) fin m c () := by
      intro m
      induction m with
      | nil => intro c _; rfl
      | cons x m ih =>
        intro c hc
        have hx : x ∈ l := List.mem_of_mem_drop (i := c) (by rw [hc]; simp)
        have := ih (c + 1) (drop_next hc)
        rw [loopL, loopL, hs _ _ _ hx (drop_lt hc)]
        simp only [this]
    exact key l 0 List.drop_zero
  rw [h1, loop_rises lt d q r fin l _ 0 (fun n c x _ _ => rfl) l 0 (Nat.le_refl _) List.drop_zero]
  simp [ahead1]

theorem m_refcheck (F : Nat) (s : Stt) (h : s.Small 33554432) (hn : s.Names) : m_tholeref13_Check F s.les s.tail s.log s.lasts s.items = some (checkF s) := by
  unfold m_tholeref13_Check checkF
  simp only [jn, m_refbelow, Option.bind_some]
  by_cases h1 : s.les < 0
  · simp [h1]
  by_cases h2 : belowB s.tail = true
  · simp [h1, h2]
  by_cases h3 : s.items.length > 32
  · rw [decide_eq_false h1, show belowB s.tail = false by simpa using h2, decide_eq_true (show ((s.items.length : Nat) : Int) > 32 by omega), if_pos (.inr (.inr h3))]; rfl
  rw [decide_eq_false h1, show belowB s.tail = false by simpa using h2, decide_eq_false (show ¬ ((s.items.length : Nat) : Int) > 32 by omega), if_neg (by simp [h1, h2, h3]), cond_false, cond_false, cond_false, grd_pos _ (Len.of (by have := h.log; omega))]
  refine (loop_log _ _ (fun n c x e f => ?_) s.log 0 s.tail).trans ?_
  · simp only [m_refcmp, Option.bind_some]
    cases belowB x.Version <;> cases decide (vcmp x.Version ⟨e, f⟩ ≤ 0) <;> rfl
  · cases logOk s.log s.tail with
    | none => rfl
    | some v =>
      simp only [m_refcmp, Option.bind_some]
      rw [grd_pos _ (Len.of (by have := h.items; omega))]
      refine (loop_rises' nameLt dS_api_Item (badI v) (some 22) _ s.items _ (fun n c x hx hc => ?_)).trans ?_
      · simp only [m_refgood F x.Name (hn x hx), Option.bind_some, badI]
        by_cases hc0 : c = 0
        · subst hc0
          simp only [ahead1, if_true]
          cases goodB x.Name <;> cases belowB x.Version <;> cases S_api_Version.beq x.Version ⟨0, 0⟩ <;> cases decide (vcmp x.Version v > 0) <;> rfl
        · have e : (((c : Nat) : Int) - 1).toNat = c - 1 := by omega
          have hi := h.items
          rw [decide_eq_true (show ((c : Nat) : Int) > 0 by omega), grd_pos _ (show I64 _ by unfold I64; omega), grd_pos _ (show Ix _ _ by unfold Ix; omega), e]
          simp only [ahead1, if_neg hc0, nameLt]
          cases goodB x.Name <;> cases belowB x.Version <;> cases S_api_Version.beq x.Version ⟨0, 0⟩ <;> cases decide (vcmp x.Version v > 0) <;> cases Op.bytesLess (s.items.getD (c - 1) dS_api_Item).Name.toList x.Name.toList <;> rfl
      · cases hi : s.items.any (badI v) with
        | true => simp
        | false =>
          cases hr1 : rises nameLt none s.items with
          | false => simp
          | true =>
            simp only [Bool.not_true, Bool.or_false, cond_false, Bool.false_or]
            rw [grd_pos _ (Len.of (by have := h.lasts; omega))]
            refine (loop_rises' cliLt dS_api_Last (badL v) (some 22) _ s.lasts _ (fun n c x hx hc => ?_)).trans ?_
            · simp only [badL]
              by_cases hc0 : c = 0
              · subst hc0
                simp only [ahead1, if_true]
                cases belowB x.Version <;> cases decide (vcmp x.Version v > 0) <;> rfl
              · have e : (((c : Nat) : Int) - 1).toNat = c - 1 := by omega
                have hi := h.lasts
                rw [decide_eq_true (show ((c : Nat) : Int) > 0 by omega), grd_pos _ (show I64 _ by unfold I64; omega), grd_pos _ (show Ix _ _ by unfold Ix; omega), e]
                simp only [ahead1, if_neg hc0, cliLt]
                by_cases hh : (s.lasts.getD (c - 1) dS_api_Last).Client < x.Client
                · rw [decide_eq_true hh, decide_eq_false (show ¬ (s.lasts.getD (c - 1) dS_api_Last).Client ≥ x.Client by omega)]
                  cases belowB x.Version <;> cases decide (vcmp x.Version v > 0) <;> rfl
                · rw [decide_eq_false hh, decide_eq_true (show (s.lasts.getD (c - 1) dS_api_Last).Client ≥ x.Client by omega)]
                  cases belowB x.Version <;> cases decide (vcmp x.Version v > 0) <;> rfl
            · cases s.lasts.any (badL v) <;> cases rises cliLt none s.lasts <;> rfl

end Go.Proofs.Yticlccnajfjdeaa
