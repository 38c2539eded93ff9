/-
  CHAPTER 05: plain facts: copies, runs, lent bytes, one act.
-/
import Derived.Test.YtmdfkklldbfocaaP05yd
set_option linter.unusedVariables false
set_option linter.unusedSimpArgs false
set_option maxRecDepth 100000
namespace Go.Proofs.Ytmdfkklldbfocaa
open Go Go.RowKit Sx

theorem m_lives (F : Nat) (hF : 4100 < F) : m_tholelaw05_lives F = some true := by
  have g0 := Gd5.nil
  rw [m_tholelaw05_lives, m_extent_New, Option.bind_some, m_write F hF g0, Option.bind_some]
  have g1 := g0.wr 2 [97, 98]
  dsimp only
  rw [m_write F hF g1, Option.bind_some]
  have g2 := g1.wr 4 [99, 100]
  dsimp only
  rw [m_zero F hF g2, Option.bind_some]
  have g3 := g2.zr 3 2
  dsimp only
  rw [m_bytes F hF g3, m_write F hF g3]
  refine Eq.symm ?_
  refine Eq.symm ?_
  kernel_rfl

/-! ### Copies -/

def cpS (t : Nat × List Rn × Int × List UInt8) (r : Rn) : Nat × List Rn × Int × List UInt8 := if t.1 = 0 then (1, ([], r.at_, r.b)) else (1, (t.2.1 ++ [⟨t.2.2.1, t.2.2.2⟩], r.at_, r.b))
theorem cp_fold : ∀ (l : List Rn) (t : Nat × List Rn × Int × List UInt8), t.1 = 1 → (l.foldl cpS t).1 = 1 ∧ (l.foldl cpS t).2.1 ++ [⟨(l.foldl cpS t).2.2.1, (l.foldl cpS t).2.2.2⟩] = t.2.1 ++ [⟨t.2.2.1, t.2.2.2⟩] ++ l
  | [], t, h => ⟨h, by simp⟩
  | r :: l, t, h => by
    have e : cpS t r = (1, (t.2.1 ++ [⟨t.2.2.1, t.2.2.2⟩], r.at_, r.b)) := if_neg (by omega)
    rw [List.foldl_cons, e]
    obtain ⟨h1, h2⟩ := cp_fold l (1, (t.2.1 ++ [⟨t.2.2.1, t.2.2.2⟩], r.at_, r.b)) rfl
    exact ⟨h1, by rw [h2]; simp⟩
theorem m_copy (F : Nat) (hF : 4100 < F) {L : List Rn} {sz : Int} (g : Gd5 L sz) : m___extent_Map__Copy F L sz = some (L, sz) := by
  rw [m___extent_Map__Copy, m___extent_Map__is, Option.bind_some, m_extent_New, Option.bind_some, m_extents F hF g, Option.bind_some,
    m_iter F _ _ g.len g.blen cpS (fun t _ => t.1 = 0 ∨ t.1 = 1) (fun t r l hi => ?_) (.inl rfl), Option.bind_some]
  · simp only [jn]
    cases L with
    | nil => rfl
    | cons r l =>
      have e : cpS (0, ([], 0, [])) r = (1, ([], r.at_, r.b)) := rfl
      rw [List.foldl_cons, e]
      obtain ⟨h1, h2⟩ := cp_fold l (1, ([], r.at_, r.b)) rfl
      rw [h1, h2]; rfl
  · obtain ⟨j, l, a, b⟩ := t
    rcases hi with h | h
    · dsimp only at h; subst h
      exact ⟨rfl, .inr rfl⟩
    · dsimp only at h; subst h
      refine ⟨?_, .inr rfl⟩
      dsimp only
      rw [show ((1 : Nat) == 0) = false from rfl, cond_false, grd_pos _ rfl]; rfl
theorem m_rcopy (F : Nat) {D : List UInt8} {H : List Bool} (hd : D.length ≤ 5000) (hh : H.length ≤ 5000) : m___tholeref05_Map__Copy_2 F D H = some (D, H) := by
  rw [m___tholeref05_Map__Copy_2, grd_pos _ (by unfold App; simp only [List.length_nil]; omega), grd_pos _ (by unfold App; simp only [List.length_nil]; omega)]; rfl

/-! ### Runs -/

def cv (r : Rn) : S_tholeref05_Run := ⟨r.at_, r.b⟩
def pushR (l : List Rn) (i : Int) (x : UInt8) : List Rn :=
  match l with
  | [] => [⟨i, [x]⟩]
  | [r] => if ren r = i then [⟨r.at_, r.b ++ [x]⟩] else [r, ⟨i, [x]⟩]
  | r :: r' :: t => r :: pushR (r' :: t) i x
theorem clr_from {i : Int} : ∀ {t : List Rn} {q : Int}, sep q t → i ≤ q → (∀ r ∈ t, ren r ≤ 4096) → clr i 4097 t = []
  | [], _, _, _, _ => rfl
  | r :: t, q, ⟨h1, h2, h3⟩, hi, hb => by
    have g := ren_gt h2; have := hb r (by simp)
    rw [show clr i 4097 (r :: t) = clr1 i 4097 r ++ clr i 4097 t from by simp [clr], clr_from h3 (by omega) (fun x hx => hb x (by simp [hx])), clr1, if_neg (by omega), if_neg (by omega), if_neg (by omega)]; rfl
theorem clr_step {i : Int} (h0 : 0 ≤ i) : ∀ {L : List Rn} {p : Int}, sep p L → 0 ≤ p → (∀ r ∈ L, ren r ≤ 4096) → clr (i + 1) 4097 L = match cov L i with | some x => pushR (clr i 4097 L) i x | none => clr i 4097 L
  | [], _, _, _, _ => rfl
  | r :: t, p, ⟨h1, h2, h3⟩, hp, hb => by
    have g := ren_gt h2; have hr := hb r (by simp); have hl := len_pos h2
    have hlen : ren r = r.at_ + (r.b.length : Int) := rfl
    have hbt : ∀ x ∈ t, ren x ≤ 4096 := fun x hx => hb x (by simp [hx])
    have ec : ∀ q : Int, clr q 4097 (r :: t) = clr1 q 4097 r ++ clr q 4097 t := fun q => by simp [clr]
    rw [ec, ec, cov]
    by_cases c1 : ren r ≤ i
    · rw [at1_none (.inr c1), Option.none_or, clr_step h0 h3 (by omega) hbt, clr1, if_pos (.inl (by omega)), clr1, if_pos (.inl c1)]
      cases hx : cov t i with
      | none => rfl
      | some x =>
        have hi : ren r + 1 ≤ i := by
          refine Int.not_lt.1 fun hn => ?_
          rw [cov_none h3 hn] at hx; cases hx
        dsimp only
        cases hc : clr i 4097 t with
        | nil => rw [List.append_nil, pushR, pushR, if_neg (by omega)]; rfl
        | cons r' t' => rw [List.singleton_append, List.singleton_append, pushR]
    · rw [clr_from h3 (by omega) hbt, clr_from h3 (by omega) hbt, List.append_nil, List.append_nil]
      by_cases c2 : r.at_ ≤ i
      · have hk : (i - r.at_).toNat < r.b.length := by omega
        have ea : at1 r i = some (r.b[(i - r.at_).toNat]'hk) := by unfold at1; rw [if_pos c2, List.getElem?_eq_getElem hk]
        have e1 : clr1 (i + 1) 4097 r = [⟨r.at_, r.b.take ((i - r.at_).toNat + 1)⟩] := by
          unfold clr1
          by_cases c3 : ren r ≤ i + 1
          · rw [if_pos (.inl c3), List.take_of_length_le (by omega)]
          · rw [if_neg (by omega), if_pos (by omega), if_neg (by omega), show (i + 1 - r.at_).toNat = (i - r.at_).toNat + 1 by omega]; rfl
        rw [ea, e1, Option.some_or]
        dsimp only
        rw [List.take_add_one, List.getElem?_eq_getElem hk]
        unfold clr1
        rw [if_neg (by omega)]
        by_cases c3 : r.at_ < i
        · have e4 : ren ⟨r.at_, r.b.take (i - r.at_).toNat⟩ = i := by unfold ren; dsimp only; rw [List.length_take]; omega
          rw [if_pos c3, if_neg (by omega), List.append_nil, pushR, if_pos e4]; rfl
        · have e5 : (i - r.at_).toNat = 0 := by omega
          have e6 : r.at_ = i := by omega
          rw [if_neg c3, if_neg (by omega), List.append_nil, pushR]
          subst e6
          simp only [Int.sub_self, Int.toNat_zero, List.take_zero, List.nil_append]; rfl
      · have e1 : clr1 (i + 1) 4097 r = [] := by unfold clr1; rw [if_neg (by omega), if_neg (by omega), if_neg (by omega)]; rfl
        have e2 : clr1 i 4097 r = [] := by unfold clr1; rw [if_neg (by omega), if_neg (by omega), if_neg (by omega)]; rfl
        rw [e1, e2, at1_none (.inl (by omega)), Option.none_or, cov_none h3 (by omega)]
theorem clr_all : ∀ {L : List Rn} {n : Int}, (∀ r ∈ L, ren r ≤ n) → clr n 4097 L = L
  | [], _, _ => rfl
  | r :: t, n, h => by
    rw [show clr n 4097 (r :: t) = clr1 n 4097 r ++ clr n 4097 t from by simp [clr], clr1, if_pos (.inl (h r (by simp))), clr_all fun x hx => h x (by simp [hx])]; rfl
theorem push_set (i : Int) (x : UInt8) : ∀ l : List Rn, pushR l i x = if h : l = [] then [⟨i, [x]⟩] else if ren (l.getLast h) = i then l.set (l.length - 1) ⟨(l.getLast h).at_, (l.getLast h).b ++ [x]⟩ else l ++ [⟨i, [x]⟩]
  | [] => rfl
  | [r] => by
    rw [pushR, dif_neg (by simp)]; rfl
  | r :: r' :: t => by
    rw [pushR, push_set i x (r' :: t), dif_neg (by simp), dif_neg (by simp)]
    have e : (r :: r' :: t).getLast (by simp) = (r' :: t).getLast (by simp) := by rw [List.getLast_cons (by simp)]
    rw [e]
    by_cases h : ren ((r' :: t).getLast (by simp)) = i
    · rw [if_pos h, if_pos h]
      simp only [List.length_cons]
      rw [show t.length + 1 + 1 - 1 = (t.length + 1 - 1) + 1 by omega, List.set_cons_succ]
    · rw [if_neg h, if_neg h]; rfl
theorem clr_good {L : List Rn} {sz : Int} (g : Gd5 L sz) {i : Int} (h0 : 0 ≤ i) (h1 : i ≤ 4096) : Gd5 (clr i 4097 L) i := g.cut h0 h1
theorem m_runs (F : Nat) {L : List Rn} {sz : Int} {D : List UInt8} {H : List Bool} (r : Rel L sz D H) : m___tholeref05_Map__Runs F D H = some (L.map cv) := by
  have hd := r.hd; have hh := r.hh; have n0 := r.g.n0; have n1 := r.g.n1
  have hb : ∀ x ∈ L, ren x ≤ 4096 := fun x hx => Int.le_trans (r.g.b x hx) n1
  rw [m___tholeref05_Map__Runs, grd_pos _ (by unfold Len; omega)]
  have key : ∀ (st : (List S_tholeref05_Run → Option (List S_tholeref05_Run)) → Nat → UInt8 → List S_tholeref05_Run → Option (List S_tholeref05_Run)) (fin : Nat → List S_tholeref05_Run → Option (List S_tholeref05_Run)),
      (∀ nx c x, c < sz.toNat → D[c]? = some x → st nx c x ((clr c 4097 L).map cv) = nx ((clr ((c : Int) + 1) 4097 L).map cv)) → (∀ c l, fin c l = some l) → ∀ (t : List UInt8) (c : Nat), (∀ i y, t[i]? = some y → D[c + i]? = some y) → c + t.length = sz.toNat →
      loopL st fin t c ((clr c 4097 L).map cv) = some (L.map cv) := by
    intro st fin hs hf t
    induction t with
    | nil =>
      intro c _ hc
      rw [loopL, hf, clr_all fun x hx => by have := r.g.b x hx; simp at hc; omega]
    | cons x t ih =>
      intro c h hc
      simp only [List.length_cons] at hc
      rw [loopL, hs _ c x (by omega) (h 0 x rfl)]
      have := ih (c + 1) (fun i y hy => by have := h (i + 1) y (by simpa using hy); rwa [show c + (i + 1) = c + 1 + i by omega] at this) (by omega)
      rw [show ((c + 1 : Nat) : Int) = (c : Int) + 1 by omega] at this
      exact this
  have h00 : (clr ((0 : Nat) : Int) 4097 L) = [] := clr_from r.g.s (Int.le_refl _) hb
  refine (congrArg (loopL _ _ D 0) (show ([] : List S_tholeref05_Run) = (clr ((0 : Nat) : Int) 4097 L).map cv from by rw [h00]; rfl)).trans (key _ _ (fun nx c x hc hx => ?_) (fun c l => rfl) D 0 (fun i y h => by rwa [Nat.zero_add]) (by omega))
  · have hst := clr_step (i := c) (by omega) r.g.s (Int.le_refl _) hb
    rw [r.hc c hc] at hst
    have gc := clr_good r.g (i := c) (by omega) (by omega)
    have hlen := gc.len
    have hxe : D.getD c 0 = x := by rw [List.getD_eq_getElem?_getD, hx]; rfl
    rw [grd_pos _ (by omega)]
    cases hH : H.getD c false with
    | false =>
      rw [hH, if_neg (by simp)] at hst
      rw [Bool.not_false, cond_true, hst]
    | true =>
      rw [hH, if_pos rfl, hxe] at hst
      dsimp only at hst
      rw [Bool.not_true, cond_false, hst, push_set]
      generalize clr (c : Int) 4097 L = l at gc hlen
      rw [List.length_map, grd_pos _ ⟨by omega, by omega⟩]
      by_cases hl : l = []
      · subst hl
        rw [dif_pos rfl, decide_eq_false (by simp), cond_false, grd_pos _ (by unfold App; simp)]; rfl
      · have hl1 : 1 ≤ l.length := by cases l with | nil => exact absurd rfl hl | cons a b => simp
        have hlast : (l.map cv).getD (Int.toNat (((l.length : Nat) : Int) - 1)) dS_tholeref05_Run = cv (l.getLast hl) := by
          rw [show Int.toNat (((l.length : Nat) : Int) - 1) = l.length - 1 by omega, List.getD_eq_getElem?_getD, List.getElem?_map, List.getLast_eq_getElem, List.getElem?_eq_getElem (by omega)]; rfl
        have hm := List.getLast_mem hl
        obtain ⟨q1, q2, q3⟩ := gc.ok _ hm
        unfold ren at q3
        rw [dif_neg hl, decide_eq_true (by omega), cond_true, grd_pos _ (by omega), grd_pos _ ⟨by omega, by omega⟩]
        have q4 : (cv (l.getLast hl)).B.length = (l.getLast hl).b.length := rfl
        have q5 : (cv (l.getLast hl)).At = (l.getLast hl).at_ := rfl
        rw [hlast, grd_pos _ ⟨by omega, by omega⟩]
        by_cases he : ren (l.getLast hl) = c
        · rw [if_pos he, eq_t (show (cv (l.getLast hl)).At + ((cv (l.getLast hl)).B.length : Int) = c from he), cond_true, grd_pos _ (by unfold App; rw [List.length_singleton]; omega), List.map_set, show Int.toNat (((l.length : Nat) : Int) - 1) = l.length - 1 by omega]; rfl
        · rw [if_neg he, eq_f (show ¬ (cv (l.getLast hl)).At + ((cv (l.getLast hl)).B.length : Int) = c from he), cond_false, grd_pos _ (by unfold App; rw [List.length_singleton]; omega), List.map_append]; rfl
end Go.Proofs.Ytmdfkklldbfocaa
