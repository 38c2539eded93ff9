/-
  CHAPTER 7: who is chosen, and how often.
-/
import Derived.Test.YtmdmfjgpjpfoaaaP07c
set_option linter.unusedVariables false
set_option maxRecDepth 100000
namespace Go.Proofs.Ytmdmfjgpjpfoaaa
open Go Sx

/-- The place 'a' is the choice among the first k. -/
structure Best (ids ws : List Int) (x r : Int) (k a : Nat) : Prop where
  lt : a < k
  heavy : 1 ≤ ws.getD a 0
  most : ∀ j, j < k → 1 ≤ ws.getD j 0 → strawOf ids ws x r j ≤ strawOf ids ws x r a ∧ (j < a → strawOf ids ws x r j < strawOf ids ws x r a)

theorem Best.one {ids ws : List Int} {x r : Int} {k a b : Nat} (h : Best ids ws x r k a) (h' : Best ids ws x r k b) : a = b := by
  have h1 := h.most b h'.lt h'.heavy
  have h2 := h'.most a h.lt h.heavy
  rcases Nat.lt_trichotomy a b with hc | hc | hc
  · have := h2.2 hc; omega
  · exact hc
  · have := h1.2 hc; omega

theorem chState_is (ids ws : List Int) (x r : Int) : ∀ k, ((chState ids ws x r k).2 = -1 ∧ ∀ j, j < k → ¬ 1 ≤ ws.getD j 0) ∨
    ∃ a : Nat, (chState ids ws x r k).2 = (a : Int) ∧ (chState ids ws x r k).1 = strawOf ids ws x r a ∧ Best ids ws x r k a
  | 0 => .inl ⟨rfl, fun j hj => by omega⟩
  | k + 1 => by
    have ih := chState_is ids ws x r k
    rw [chState_succ]
    by_cases hw : ws.getD k 0 < 1
    · rw [chStep_skip hw]
      rcases ih with ⟨h1, h2⟩ | ⟨a, h1, h2, h3⟩
      · refine .inl ⟨h1, fun j hj => ?_⟩
        by_cases hjk : j = k
        · subst hjk; omega
        · exact h2 j (by omega)
      · refine .inr ⟨a, h1, h2, ⟨by have := h3.lt; omega, h3.heavy, fun j hj hj1 => ?_⟩⟩
        by_cases hjk : j = k
        · subst hjk; omega
        · exact h3.most j (by omega) hj1
    · rcases ih with ⟨h1, h2⟩ | ⟨a, h1, h2, h3⟩
      · rw [chStep_take hw (by rw [h1]; rfl)]
        refine .inr ⟨k, rfl, rfl, ⟨by omega, by omega, fun j hj hj1 => ?_⟩⟩
        by_cases hjk : j = k
        · subst hjk; exact ⟨Int.le_refl _, fun h => by omega⟩
        · exact absurd hj1 (h2 j (by omega))
      · by_cases hb : strawOf ids ws x r k > (chState ids ws x r k).1
        · rw [chStep_take hw (by rw [decide_eq_true hb, Bool.or_true])]
          rw [h2] at hb
          refine .inr ⟨k, rfl, rfl, ⟨by omega, by omega, fun j hj hj1 => ?_⟩⟩
          by_cases hjk : j = k
          · subst hjk; exact ⟨Int.le_refl _, fun h => by omega⟩
          · have := h3.most j (by omega) hj1
            exact ⟨by omega, fun _ => by omega⟩
        · rw [chStep_stay hw (by rw [decide_eq_false hb, h1, decide_eq_false (by omega)]; rfl)]
          rw [h2] at hb
          refine .inr ⟨a, h1, h2, ⟨by have := h3.lt; omega, h3.heavy, fun j hj hj1 => ?_⟩⟩
          by_cases hjk : j = k
          · subst hjk; have := h3.lt; exact ⟨by omega, fun h => by omega⟩
          · exact h3.most j (by omega) hj1

/-- Whom it is: nobody, where nobody weighs anything; else the best one. -/
theorem chooseF_is {ids ws : List Int} (x r : Int) (h : ids.length = ws.length) : (chooseF ids ws x r = (0, false) ∧ ∀ j, j < ids.length → ¬ 1 ≤ ws.getD j 0) ∨
    ∃ a : Nat, chooseF ids ws x r = ((a : Int), true) ∧ Best ids ws x r ids.length a := by
  rw [chooseF_eq (b := (chState ids ws x r ids.length).1) (a := (chState ids ws x r ids.length).2) h rfl]
  rcases chState_is ids ws x r ids.length with ⟨h1, h2⟩ | ⟨a, h1, h2, h3⟩
  · left
    rw [h1]
    exact ⟨rfl, h2⟩
  · right
    rw [h1]
    refine ⟨a, ?_, h3⟩
    rw [if_neg (by omega), decide_eq_true (by omega)]

theorem chooseF_some {ids ws : List Int} {x r : Int} (h : (chooseF ids ws x r).2 = true) : ∃ a : Nat, (chooseF ids ws x r).1 = (a : Int) ∧ Best ids ws x r ids.length a ∧ ids.length = ws.length := by
  by_cases hl : ids.length = ws.length
  · rcases chooseF_is x r hl with ⟨h1, h2⟩ | ⟨a, h1, h2⟩
    · rw [h1] at h; cases h
    · exact ⟨a, by rw [h1], h2, hl⟩
  · rw [chooseF_ne hl] at h; cases h

theorem chooseF_of_best {ids ws : List Int} {x r : Int} {a : Nat} (hl : ids.length = ws.length) (h : Best ids ws x r ids.length a) : chooseF ids ws x r = ((a : Int), true) := by
  rcases chooseF_is x r hl with ⟨h1, h2⟩ | ⟨b, h1, h2⟩
  · exact absurd h.heavy (h2 a h.lt)
  · rw [h1, h.one h2]

/-! ### Shares -/
theorem shareState_zero (ids ws : List Int) : shareState ids ws 0 = List.replicate ids.length 0 := rfl
theorem shareState_succ (ids ws : List Int) (x : Nat) : shareState ids ws (x + 1) =
    if (chooseF ids ws (IntKind.u32.wrap (x : Int)) 0).2 = true then (shareState ids ws x).set (chooseF ids ws (IntKind.u32.wrap (x : Int)) 0).1.toNat ((shareState ids ws x).getD (chooseF ids ws (IntKind.u32.wrap (x : Int)) 0).1.toNat 0 + 1)
    else shareState ids ws x := by
  rw [shareState, List.range_succ, List.foldl_append]; rfl

theorem shareState_yes {ids ws : List Int} {x j : Nat} (h : (chooseF ids ws (IntKind.u32.wrap (x : Int)) 0).2 = true) (hj : (chooseF ids ws (IntKind.u32.wrap (x : Int)) 0).1 = (j : Int)) :
    shareState ids ws (x + 1) = (shareState ids ws x).set j ((shareState ids ws x).getD j 0 + 1) := by
  rw [shareState_succ, if_pos h, hj]; rfl
theorem shareState_no {ids ws : List Int} {x : Nat} (h : (chooseF ids ws (IntKind.u32.wrap (x : Int)) 0).2 = false) : shareState ids ws (x + 1) = shareState ids ws x := by
  rw [shareState_succ, h, if_neg (by simp)]

theorem shareState_len (ids ws : List Int) : ∀ x, (shareState ids ws x).length = ids.length
  | 0 => by simp [shareState_zero]
  | x + 1 => by
    rw [shareState_succ]
    split
    · rw [List.length_set]; exact shareState_len ids ws x
    · exact shareState_len ids ws x

theorem getD_set (l : List Int) (i j : Nat) (v : Int) : (l.set i v).getD j 0 = if i = j ∧ j < l.length then v else l.getD j 0 := by
  simp only [List.getD, List.getElem?_set]
  by_cases hij : i = j
  · subst hij
    by_cases hl : i < l.length
    · simp [hl]
    · simp [hl]
  · simp [hij]

theorem shareState_le (ids ws : List Int) : ∀ x j, 0 ≤ (shareState ids ws x).getD j 0 ∧ (shareState ids ws x).getD j 0 ≤ (x : Int)
  | 0, j => by
    rw [shareState_zero]
    by_cases hj : j < ids.length <;> simp [List.getD, hj]
  | x + 1, j => by
    have ih := shareState_le ids ws x j
    rw [shareState_succ]
    split
    · rw [getD_set]
      split
      · rename_i h
        rw [h.1]
        omega
      · omega
    · omega

/-- How many have each one chosen of the first n numbers (10000 at the most). -/
def shareF (ids ws : List Int) (n : Int) : List Int := if ids.length = ws.length then shareState ids ws (if 10000 < n then 10000 else n).toNat else []

theorem shareF_eq {ids ws : List Int} {n : Int} {k : Nat} (h : ids.length = ws.length) (hk : (if 10000 < n then 10000 else n).toNat = k) : shareF ids ws n = shareState ids ws k := by
  unfold shareF; rw [if_pos h, hk]
theorem shareF_ne {ids ws : List Int} {n : Int} (h : ids.length ≠ ws.length) : shareF ids ws n = [] := by unfold shareF; rw [if_neg h]

/-! ### Lists of numbers -/
theorem ext_getD {l l' : List Int} (h : l.length = l'.length) (h2 : ∀ j, j < l.length → l.getD j 0 = l'.getD j 0) : l = l' := by
  apply List.ext_getElem h
  intro i h3 h4
  have := h2 i h3
  simpa [List.getD, h3, h4] using this

/-- Who weighs nothing has none. -/
theorem shareState_light (ids ws : List Int) (j : Nat) (hw : ¬ 1 ≤ ws.getD j 0) : ∀ x, (shareState ids ws x).getD j 0 = 0
  | 0 => by
    rw [shareState_zero]
    by_cases hj : j < ids.length <;> simp [List.getD, hj]
  | x + 1 => by
    have ih := shareState_light ids ws j hw x
    cases h : (chooseF ids ws (IntKind.u32.wrap (x : Int)) 0).2 with
    | false => rw [shareState_no h]; exact ih
    | true =>
      obtain ⟨a, h1, h2, _⟩ := chooseF_some h
      rw [shareState_yes h h1, getD_set]
      split
      · rename_i h3
        have := h2.heavy
        rw [h3.1] at this
        exact absurd this hw
      · exact ih

/-- The sum of the first i. -/
def sumTo (l : List Int) : Nat → Int
  | 0 => 0
  | i + 1 => sumTo l i + l.getD i 0

theorem sumTo_set (l : List Int) (j : Nat) (v : Int) : ∀ i, i ≤ l.length → sumTo (l.set j v) i = sumTo l i + if j < i then v - l.getD j 0 else 0
  | 0, _ => by simp [sumTo]
  | i + 1, h => by
    have ih := sumTo_set l j v i (by omega)
    simp only [sumTo, ih, getD_set]
    by_cases hj : j = i
    · subst hj
      rw [if_neg (by omega), if_pos ⟨rfl, by omega⟩, if_pos (by omega)]
      omega
    · by_cases hji : j < i
      · rw [if_pos hji, if_neg (fun hc => hj hc.1), if_pos (by omega)]; omega
      · rw [if_neg hji, if_neg (fun hc => hj hc.1), if_neg (by omega)]; omega

theorem sumTo_zero (l : List Int) (h : ∀ j, l.getD j 0 = 0) : ∀ i, sumTo l i = 0
  | 0 => rfl
  | i + 1 => by rw [sumTo, sumTo_zero l h i, h]; rfl

/-- How many of the first i weigh something. -/
def heavyTo (ws : List Int) : Nat → Nat
  | 0 => 0
  | i + 1 => heavyTo ws i + if 0 < ws.getD i 0 then 1 else 0

theorem heavyTo_le (ws : List Int) : ∀ i, heavyTo ws i ≤ i
  | 0 => Nat.le_refl _
  | i + 1 => by have := heavyTo_le ws i; simp only [heavyTo]; split <;> omega

theorem heavyTo_none (ws : List Int) : ∀ i, heavyTo ws i = 0 → ∀ j, j < i → ¬ 1 ≤ ws.getD j 0
  | 0, _, j, hj => by omega
  | i + 1, h, j, hj => by
    simp only [heavyTo] at h
    by_cases hji : j = i
    · subst hji
      split at h
      · omega
      · omega
    · exact heavyTo_none ws i (by omega) j (by omega)

theorem heavyTo_some (ws : List Int) : ∀ i, heavyTo ws i ≠ 0 → ∃ j, j < i ∧ 1 ≤ ws.getD j 0
  | 0, h => absurd rfl h
  | i + 1, h => by
    simp only [heavyTo] at h
    by_cases hi : 0 < ws.getD i 0
    · exact ⟨i, by omega, by omega⟩
    · rw [if_neg hi] at h
      obtain ⟨j, h1, h2⟩ := heavyTo_some ws i h
      exact ⟨j, by omega, h2⟩

/-- Each x is somebody's. -/
theorem share_all {ids ws : List Int} (hl : ids.length = ws.length) (h : heavyTo ws ws.length ≠ 0) : ∀ x, sumTo (shareState ids ws x) ids.length = (x : Int)
  | 0 => by
    rw [shareState_zero]
    exact sumTo_zero _ (fun j => by by_cases hj : j < ids.length <;> simp [List.getD, hj]) _
  | x + 1 => by
    obtain ⟨j, h1, h2⟩ := heavyTo_some ws _ h
    rcases chooseF_is (IntKind.u32.wrap (x : Int)) 0 hl with ⟨_, h4⟩ | ⟨a, h3, h4⟩
    · exact absurd h2 (h4 j (by omega))
    · rw [shareState_yes (j := a) (by rw [h3]) (by rw [h3]), sumTo_set _ _ _ _ (by rw [shareState_len]; exact Nat.le_refl _), share_all hl h x, if_pos h4.lt]
      omega

theorem share_none {ids ws : List Int} (hl : ids.length = ws.length) (h : heavyTo ws ws.length = 0) (x : Nat) : sumTo (shareState ids ws x) ids.length = 0 := by
  refine sumTo_zero _ (fun j => ?_) _
  by_cases hj : j < ws.length
  · exact shareState_light ids ws j (heavyTo_none ws _ h j hj) x
  · rw [List.getD, List.getElem?_eq_none (by rw [shareState_len]; omega)]; rfl

theorem sumTo_le (l : List Int) (B : Int) (h : ∀ j, 0 ≤ l.getD j 0 ∧ l.getD j 0 ≤ B) : ∀ i : Nat, 0 ≤ sumTo l i ∧ sumTo l i ≤ B * (i : Int)
  | 0 => by simp [sumTo]
  | i + 1 => by
    have ih := sumTo_le l B h i
    have h2 := h i
    have e : B * ((i + 1 : Nat) : Int) = B * (i : Int) + B := by rw [Int.natCast_add, Int.mul_add]; simp
    rw [e]
    simp only [sumTo]
    omega

end Go.Proofs.Ytmdmfjgpjpfoaaa
