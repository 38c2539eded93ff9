/-
  CHAPTER 05: plain facts: what clear and Write make of the runs.
-/
import Derived.Test.YtmdfkklldbfocaaM05y
set_option linter.unusedVariables false
set_option linter.unusedSimpArgs false
set_option maxRecDepth 100000
namespace Go.Proofs.Ytmdfkklldbfocaa
open Go Go.RowKit Sx

def ren (r : S_extent_run) : Int := r.at_ + (r.b.length : Int)
def okR (r : S_extent_run) : Prop := r.b ≠ [] ∧ 0 ≤ r.at_ ∧ ren r ≤ 4096
def clr1 (lo hi : Int) (r : S_extent_run) : List S_extent_run :=
  if ren r ≤ lo ∨ hi ≤ r.at_ then [r] else
    (if r.at_ < lo then [⟨r.at_, r.b.take (lo - r.at_).toNat⟩] else []) ++ (if hi < ren r then [⟨hi, r.b.drop (hi - r.at_).toNat⟩] else [])
def clr (lo hi : Int) (L : List S_extent_run) : List S_extent_run := L.flatMap (clr1 lo hi)

theorem len_pos {b : List UInt8} (h : b ≠ []) : 1 ≤ b.length := by
  cases b with
  | nil => exact absurd rfl h
  | cons x l => simp

theorem m_end (F : Nat) {a : Int} {b : List UInt8} (h0 : 0 ≤ a) (h : a + (b.length : Int) ≤ 100000) : m___extent_run__end F a b = some (a + (b.length : Int)) := by
  rw [m___extent_run__end, grd_pos _ ⟨by omega, by omega⟩]
theorem m_add1 (F : Nat) (a : Int) {b : List UInt8} (z : Int) (h : 1 ≤ b.length) : m___extent_Map__clear_1 F a b z = some (a, z) := by
  rw [m___extent_Map__clear_1, grd_pos _ (decide_eq_true (by omega))]
theorem m_add2 (F : Nat) (a : Int) {b : List UInt8} (z : Int) (c : List UInt8) (h : 1 ≤ b.length) : m___extent_Map__clear_1_2 F a b z c = some (z, a) := by
  rw [m___extent_Map__clear_1_2, grd_pos _ (decide_eq_true (by omega))]

abbrev Lk := List S_extent_run × Int × List UInt8
def flatL (s : Lk) : List S_extent_run := s.1 ++ [⟨s.2.1, s.2.2⟩]
def pushes (s : Lk) : List S_extent_run → Lk
  | [] => s
  | r :: rs => pushes (flatL s, r.at_, r.b) rs
theorem flat_pushes : ∀ (rs : List S_extent_run) (s : Lk), flatL (pushes s rs) = flatL s ++ rs
  | [], s => by simp [pushes]
  | r :: rs, s => by
    rw [pushes, flat_pushes rs]
    simp [flatL]

theorem inner_loop {sz lo hi : Int} (st : (List S_extent_run × Lk → Option (List S_extent_run × Int)) → List S_extent_run × Lk → Option (List S_extent_run × Int))
    (h0 : ∀ nx s, st nx ([], s) = some (flatL s, sz)) (h1 : ∀ nx x l s, okR x → st nx (x :: l, s) = nx (l, pushes s (clr1 lo hi x))) :
    ∀ (l : List S_extent_run) (n : Nat) (s : Lk), (∀ r ∈ l, okR r) → l.length < n → loopW st n (l, s) = some (flatL s ++ clr lo hi l, sz)
  | [], n + 1, s, _, _ => by rw [loopW, h0]; simp [clr]
  | x :: l, n + 1, s, h, hn => by
    rw [loopW, h1 _ _ _ _ (h x (by simp)), inner_loop st h0 h1 l n _ (fun r hr => h r (by simp [hr])) (by simp at hn; omega), flat_pushes]
    simp [clr]
  | [], 0, _, _, hn => by simp at hn
  | _ :: _, 0, _, _, hn => by simp at hn

theorem outer_loop {F : Nat} {sz lo hi : Int} (st : (List S_extent_run → Option (List S_extent_run × Int)) → List S_extent_run → Option (List S_extent_run × Int))
    (h0 : ∀ nx, st nx [] = some ([], sz)) (h1 : ∀ nx x l, okR x → (∀ r ∈ l, okR r) → l.length < F → st nx (x :: l) = match clr1 lo hi x with | [] => nx l | r :: rs => some ((r :: rs) ++ clr lo hi l, sz)) :
    ∀ (l : List S_extent_run) (n : Nat), (∀ r ∈ l, okR r) → l.length < n → l.length ≤ F → loopW st n l = some (clr lo hi l, sz)
  | [], n + 1, _, _, _ => by rw [loopW, h0]; rfl
  | x :: l, n + 1, h, hn, hF => by
    have hl : ∀ r ∈ l, okR r := fun r hr => h r (by simp [hr])
    simp only [List.length_cons] at hn hF
    rw [loopW, h1 _ _ _ (h x (by simp)) hl (by omega), show clr lo hi (x :: l) = clr1 lo hi x ++ clr lo hi l from by simp [clr]]
    cases hc : clr1 lo hi x with
    | nil => dsimp only; rw [outer_loop st h0 h1 l n hl (by omega) (by omega)]; rfl
    | cons r rs => rfl
  | [], 0, _, hn, _ => by simp at hn
  | _ :: _, 0, _, hn, _ => by simp at hn

theorem take_drop_len {b : List UInt8} (k : Nat) : (b.drop k).take (b.length - k) = b.drop k := by
  rw [List.take_of_length_le]; rw [List.length_drop]; exact Nat.le_refl _

theorem jn_spec {σ ρ : Type} {k : σ → Option ρ} {b : (σ → Option ρ) → Option ρ} {r : Option ρ} (K : σ → Option ρ) (h1 : ∀ s, k s = K s) (h2 : b K = r) : jn k b = r := by
  have : k = K := funext h1
  rw [jn, this, h2]

theorem m_clear (F : Nat) {L : List S_extent_run} (hL : ∀ r ∈ L, okR r) (hF : L.length < F) (sz : Int) {lo hi : Int} (h0 : 0 ≤ lo) (h1 : lo < hi) (h2 : hi ≤ 4097) :
    m___extent_Map__clear F L sz lo hi = some (clr lo hi L, sz) := by
  rw [m___extent_Map__clear]
  refine outer_loop (F := F) _ (fun nx => rfl) (fun nx x l hx hl hlF => ?_) L F hL hF (Nat.le_of_lt hF)
  obtain ⟨p1, p2, p3⟩ := hx
  have p4 := len_pos p1
  unfold ren at p3
  simp only [lcase]
  refine jn_spec (fun s : Int × Lk => some (flatL s.2 ++ clr lo hi l, s.1)) (fun s => ?_) ?_
  · obtain ⟨z, s⟩ := s
    refine inner_loop (sz := z) (lo := lo) (hi := hi) _ (fun nx s => rfl) (fun nx x l s hx => ?_) l F s hl hlF
    obtain ⟨dn, c, b⟩ := s
    obtain ⟨q1, q2, q3⟩ := hx
    have q4 := len_pos q1
    unfold ren at q3
    simp only [lcase, jn, take_drop_len]
    rw [m_end F q2 (by omega)]
    simp only [Option.bind_some]
    unfold clr1 ren
    by_cases e1 : x.at_ + (x.b.length : Int) ≤ lo
    · rw [decide_eq_true e1, cond_true, cond_true, m_add2 F _ _ _ q4, if_pos (.inl e1)]; rfl
    · rw [decide_eq_false e1, cond_false]
      by_cases e2 : x.at_ ≥ hi
      · rw [decide_eq_true e2, cond_true, m_add2 F _ _ _ q4, if_pos (.inr e2)]; rfl
      · rw [decide_eq_false e2, cond_false, if_neg (by omega)]
        by_cases e3 : x.at_ < lo
        · rw [decide_eq_true e3, cond_true, grd_pos _ ⟨by omega, by omega⟩, grd_pos _ ⟨by omega, by omega⟩, m_add2 F _ _ _ (by rw [List.length_take]; omega), if_pos e3]
          simp only [Option.bind_some]
          by_cases e4 : x.at_ + (x.b.length : Int) > hi
          · rw [decide_eq_true e4, cond_true, grd_pos _ ⟨by omega, by omega⟩, grd_pos _ ⟨by omega, by omega⟩, m_add2 F _ _ _ (by rw [List.length_drop]; omega), if_pos e4]; rfl
          · rw [decide_eq_false e4, cond_false, if_neg e4]; rfl
        · rw [decide_eq_false e3, cond_false, if_neg e3]
          by_cases e4 : x.at_ + (x.b.length : Int) > hi
          · rw [decide_eq_true e4, cond_true, grd_pos _ ⟨by omega, by omega⟩, grd_pos _ ⟨by omega, by omega⟩, m_add2 F _ _ _ (by rw [List.length_drop]; omega), if_pos e4]; rfl
          · rw [decide_eq_false e4, cond_false, if_neg e4]; rfl
  simp only [jn, take_drop_len]
  rw [m_end F p2 (by omega)]
  simp only [Option.bind_some]
  unfold clr1 ren
  by_cases e1 : x.at_ + (x.b.length : Int) ≤ lo
  · rw [decide_eq_true e1, cond_true, cond_true, m_add1 F _ _ p4, if_pos (.inl e1)]; rfl
  · rw [decide_eq_false e1, cond_false]
    by_cases e2 : x.at_ ≥ hi
    · rw [decide_eq_true e2, cond_true, m_add1 F _ _ p4, if_pos (.inr e2)]; rfl
    · rw [decide_eq_false e2, cond_false, if_neg (by omega)]
      by_cases e3 : x.at_ < lo
      · rw [decide_eq_true e3, cond_true, grd_pos _ ⟨by omega, by omega⟩, grd_pos _ ⟨by omega, by omega⟩, m_add1 F _ _ (by rw [List.length_take]; omega), if_pos e3]
        simp only [Option.bind_some]
        by_cases e4 : x.at_ + (x.b.length : Int) > hi
        · rw [decide_eq_true e4, cond_true, grd_pos _ ⟨by omega, by omega⟩, grd_pos _ ⟨by omega, by omega⟩, m_add2 F _ _ _ (by rw [List.length_drop]; omega), if_pos e4]
          rfl
        · rw [decide_eq_false e4, cond_false, if_neg e4]; rfl
      · rw [decide_eq_false e3, cond_false, if_neg e3]
        by_cases e4 : x.at_ + (x.b.length : Int) > hi
        · rw [decide_eq_true e4, cond_true, grd_pos _ ⟨by omega, by omega⟩, grd_pos _ ⟨by omega, by omega⟩, m_add1 F _ _ (by rw [List.length_drop]; omega), if_pos e4]
          rfl
        · rw [decide_eq_false e4, cond_false, if_neg e4]; rfl
end Go.Proofs.Ytmdfkklldbfocaa
