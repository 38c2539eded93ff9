/-
  CHAPTER 14: plain facts on the models: are items a state's?
-/
import Derived.Test.YtdelhcdknglibaaP14c
set_option linter.unusedVariables false
set_option linter.unusedSimpArgs false
set_option maxRecDepth 100000
namespace Go.Proofs.Ytdelhcdknglibaa
open Go Go.RowKit Sx

theorem ibeq_self (a : Itm) : S_api_Item.beq a a = true := (S_api_Item.beq_iff a a).2 rfl

/-- The list without the first that is x. -/
def eraseF : List Itm → Itm → Option (List Itm)
  | [], _ => none
  | y :: l, x => if S_api_Item.beq x y then some l else (eraseF l x).map (y :: ·)

theorem index_erase (x : Itm) : ∀ (l : List Itm) (c : Nat), ∃ r : Int, loopL (σ := Unit) (fun nx c y _ => bif S_api_Item.beq x y then some ((c : Nat) : Int) else nx ()) (fun _ _ => some (-1)) l c () = some r ∧
    (match eraseF l x with | none => r = -1 | some l' => ∃ k : Nat, r = ((c + k : Nat) : Int) ∧ k < l.length ∧ l' = l.take k ++ l.drop (k + 1))
  | [], c => ⟨-1, rfl, rfl⟩
  | y :: l, c => by
    obtain ⟨r, h1, h2⟩ := index_erase x l (c + 1)
    simp only [loopL, h1, eraseF]
    cases hb : S_api_Item.beq x y with
    | true => exact ⟨_, rfl, ⟨0, by simp, by simp, by simp⟩⟩
    | false =>
      refine ⟨r, rfl, ?_⟩
      cases he : eraseF l x with
      | none => rw [he] at h2; simpa using h2
      | some l' =>
        rw [he] at h2
        obtain ⟨k, g1, g2, g3⟩ := h2
        simp only [Bool.false_eq_true, if_false, Option.map_some]
        exact ⟨k + 1, by rw [g1]; congr 1; omega, by simp; omega, by rw [g3]; simp⟩

theorem m_delete (F : Nat) (l : List Itm) (k : Nat) (hk : k < l.length) (h : l.length ≤ 33554432) : m_slices_Delete___api_Item_api_Item_ F l ((k : Nat) : Int) (((k : Nat) : Int) + 1) = some (l.take k ++ l.drop (k + 1)) := by
  have e1 : (((k : Nat) : Int) + 1).toNat = k + 1 := by omega
  have e0 : (((k : Nat) : Int)).toNat = k := by omega
  unfold m_slices_Delete___api_Item_api_Item_
  rw [e1, e0, grd_pos _ (show Bd _ _ by unfold Bd; omega), grd_pos _ (show Bd _ _ by unfold Bd; omega), beq_f (show ¬ ((k : Nat) : Int) = ((k : Nat) : Int) + 1 by omega), cond_false, grd_pos _ (show Bd _ _ by unfold Bd; omega),
    grd_pos _ (App40 (by omega)), grd_pos _ (by omega), grd_pos _ (by simp; omega)]

def wholeF : List Itm → List Itm → Bool
  | [], _ => true
  | x :: r, left => match eraseF left x with
    | none => false
    | some l' => wholeF r l'

theorem eraseF_len {x : Itm} : ∀ {l l' : List Itm}, eraseF l x = some l' → l'.length ≤ l.length
  | [], l', h => by cases h
  | y :: l, l', h => by
    unfold eraseF at h
    split at h
    · cases h; simp
    · cases he : eraseF l x with
      | none => rw [he] at h; cases h
      | some m =>
        rw [he] at h
        cases h
        have := eraseF_len he
        simp; omega

theorem loop_whole (F : Nat) : ∀ (items : List Itm) (c : Nat) (left : List Itm), left.length ≤ 33554432 →
    loopL (fun (nx : List Itm → Option Bool) (_ : Nat) (x : Itm) (left : List Itm) => (m_slices_Index___api_Item_api_Item_ F left x).bind (fun y => (bif decide (y < 0) then some false else grd (I64 (y + 1)) ((m_slices_Delete___api_Item_api_Item_ F left y (y + 1)).bind (fun z => nx z)))))
      (fun _ _ => some true) items c left = some (wholeF items left)
  | [], c, left, h => rfl
  | x :: r, c, left, h => by
    obtain ⟨q, h1, h2⟩ := index_erase x left 0
    have hI : m_slices_Index___api_Item_api_Item_ F left x = some q := by
      unfold m_slices_Index___api_Item_api_Item_
      rw [grd_pos _ (Len.of (by omega))]
      exact h1
    rw [loopL, hI, Option.bind_some]
    unfold wholeF
    cases he : eraseF left x with
    | none =>
      rw [he] at h2
      rw [h2]
      rfl
    | some l' =>
      rw [he] at h2
      obtain ⟨k, g1, g2, g3⟩ := h2
      rw [Nat.zero_add] at g1
      subst g1
      rw [decide_eq_false (show ¬ ((k : Nat) : Int) < 0 by omega), cond_false, grd_pos _ (by unfold I64; omega), m_delete F left k g2 h, Option.bind_some, ← g3]
      exact loop_whole F r (c + 1) l' (Nat.le_trans (eraseF_len he) h)

theorem m_whole (F : Nat) (s : Stt) (l : List Itm) (hs : s.items.length ≤ 33554432) (hl : l.length ≤ 33554432) :
    m_missing_Whole F s.les s.tail s.log s.lasts s.items l = some (decide (l.length = s.items.length) && wholeF s.items l) := by
  unfold m_missing_Whole
  by_cases he : l.length = s.items.length
  · rw [ne_f he, cond_false, decide_eq_true he, Bool.true_and]
    have hc : m_slices_Clone___api_Item_api_Item_ F l = some l := by
      unfold m_slices_Clone___api_Item_api_Item_
      rw [grd_pos _ (App40 (by simpa using hl)), List.nil_append]
    rw [hc, Option.bind_some, grd_pos _ (Len.of (by omega))]
    exact loop_whole F s.items 0 l hl
  · rw [ne_t he, cond_true, decide_eq_false he]; rfl

/-! ### By marks -/

def unusedL : List Itm → List Bool → List Itm
  | x :: l, false :: u => x :: unusedL l u
  | _ :: l, true :: u => unusedL l u
  | _, _ => []

def eraseU : List Itm → List Bool → Itm → Option (List Bool)
  | y :: l, b :: u, x => if !b && S_api_Item.beq x y then some (true :: u) else (eraseU l u x).map (b :: ·)
  | _, _, _ => none

theorem eraseU_spec (x : Itm) : ∀ (l : List Itm) (u : List Bool), l.length = u.length → eraseF (unusedL l u) x = (eraseU l u x).map (unusedL l) ∧ ∀ u', eraseU l u x = some u' → u'.length = u.length
  | [], [], _ => ⟨rfl, fun u' h => by cases h⟩
  | y :: l, b :: u, h => by
    obtain ⟨h1, h2⟩ := eraseU_spec x l u (by simpa using h)
    cases b with
    | false =>
      simp only [unusedL, eraseF, eraseU, Bool.not_false, Bool.true_and, h1]
      cases hb : S_api_Item.beq x y with
      | true => exact ⟨by simp [unusedL], fun u' h => by simp at h; rw [← h]; simp⟩
      | false =>
        cases he : eraseU l u x with
        | none => exact ⟨by simp, fun u' h => by simp at h⟩
        | some v => exact ⟨by simp [unusedL], fun u' h => by simp at h; rw [← h]; simp [h2 v he]⟩
    | true =>
      simp only [unusedL, eraseU, Bool.not_true, Bool.false_and, h1]
      cases he : eraseU l u x with
      | none => exact ⟨by simp, fun u' h => by simp at h⟩
      | some v => exact ⟨by simp [unusedL], fun u' h => by simp at h; rw [← h]; simp [h2 v he]⟩
  | [], _ :: _, h => by simp at h
  | _ :: _, [], h => by simp at h

theorem getD_pre {α : Type} (pre u : List α) (d : α) (b : α) (c : Nat) (h : pre.length = c) : (pre ++ b :: u).getD c d = b := by
  subst h; simp [List.getD]
theorem set_pre {α : Type} (pre u : List α) (b b' : α) (c : Nat) (h : pre.length = c) : (pre ++ b :: u).set c b' = pre ++ b' :: u := by
  subst h; simp

abbrev stepU (x : Itm) (n : Bool × List Bool → Option Bool) (c : Nat) (y : Itm) (s : Bool × List Bool) : Option Bool :=
  bif !s.1 then grd (c < s.2.length) (bif !(s.2.getD c false) then (bif S_api_Item.beq x y then grd (c < s.2.length) (n (true, s.2.set c true)) else n s) else n s) else n s

theorem loop_found (x : Itm) (fin : Nat → Bool × List Bool → Option Bool) : ∀ (l : List Itm) (c : Nat) (u : List Bool), loopL (stepU x) fin l c (true, u) = fin (c + l.length) (true, u)
  | [], c, u => rfl
  | y :: l, c, u => by
    rw [loopL]
    show loopL (stepU x) fin l (c + 1) (true, u) = _
    rw [loop_found x fin l (c + 1) u, show c + 1 + l.length = c + (y :: l).length by simp only [List.length_cons]; omega]

theorem loop_mark (x : Itm) (fin : Nat → Bool × List Bool → Option Bool) : ∀ (l : List Itm) (u pre : List Bool) (c : Nat), pre.length = c → l.length = u.length →
    loopL (stepU x) fin l c (false, pre ++ u) = match eraseU l u x with | none => fin (c + l.length) (false, pre ++ u) | some u' => fin (c + l.length) (true, pre ++ u')
  | [], [], pre, c, _, _ => rfl
  | y :: l, b :: u, pre, c, hp, h => by
    have hlt : c < (pre ++ b :: u).length := by simp; omega
    have ih := loop_mark x fin l u (pre ++ [b]) (c + 1) (by simp [hp]) (by simpa using h)
    have e1 : c + 1 + l.length = c + (y :: l).length := by simp only [List.length_cons]; omega
    simp only [List.append_assoc, List.cons_append, List.nil_append] at ih
    rw [loopL]
    simp only [stepU, Bool.not_false, cond_true, grd_pos _ hlt, getD_pre pre u false b c hp, set_pre pre u b true c hp, eraseU]
    cases b with
    | true =>
      simp only [Bool.not_true, cond_false, Bool.false_and, Bool.false_eq_true, if_false]
      refine ih.trans ?_
      rw [e1]
      cases eraseU l u x <;> rfl
    | false =>
      simp only [Bool.not_false, cond_true, Bool.true_and]
      cases hb : S_api_Item.beq x y with
      | true =>
        rw [cond_true, loop_found, e1]
        rfl
      | false =>
        rw [cond_false]
        refine ih.trans ?_
        rw [e1]
        cases eraseU l u x <;> rfl
  | [], _ :: _, _, _, _, h => by simp at h
  | _ :: _, [], _, _, _, h => by simp at h

theorem loop_refwhole (l : List Itm) (step : (List Bool → Option Bool) → Nat → Itm → List Bool → Option Bool)
    (hs : ∀ n c x u, step n c x u = loopL (stepU x) (fun _ s => bif !s.1 then some false else n s.2) l 0 (false, u)) : ∀ (items : List Itm) (c : Nat) (u : List Bool), l.length = u.length →
    loopL step (fun _ _ => some true) items c u = some (wholeF items (unusedL l u))
  | [], c, u, h => rfl
  | x :: r, c, u, h => by
    rw [loopL, hs]
    refine (loop_mark x _ l u [] 0 rfl h).trans ?_
    obtain ⟨h1, h2⟩ := eraseU_spec x l u h
    unfold wholeF
    rw [h1]
    cases he : eraseU l u x with
    | none => rfl
    | some u' =>
      simp only [Bool.not_true, cond_false, List.nil_append, Option.map_some]
      exact loop_refwhole l step hs r (c + 1) u' (by rw [h2 u' he]; exact h)

theorem unused_all : ∀ l : List Itm, unusedL l (List.replicate l.length false) = l
  | [] => rfl
  | x :: l => by simp [List.replicate_succ, unusedL, unused_all l]

theorem whole_self : ∀ l : List Itm, wholeF l l = true
  | [] => rfl
  | x :: l => by simp [wholeF, eraseF, ibeq_self, whole_self l]


end Go.Proofs.Ytdelhcdknglibaa
