/-
  CHAPTER 21: plain facts on the models: the parts of slices.SortStableFunc on fixes by name.
-/
import Derived.Test.YtcegkgbceogflaaPgst
import Derived.Test.YtcegkgbceogflaaM21s
import Derived.Lib.Bytealg
set_option linter.unusedVariables false
set_option linter.unusedSimpArgs false
set_option maxRecDepth 100000
namespace Go.Proofs.Ytcegkgbceogflaa
open Go Go.RowKit Sx

abbrev Itm := S_scrub_Fix_v
abbrev dI : Itm := dS_scrub_Fix_v
def cI (a b : Itm) : Int := bif Op.bytesLess a.c0.toList b.c0.toList then -1 else bif !(Op.bytesLess a.c0.toList b.c0.toList || a.c0.toList == b.c0.toList) then 1 else 0
def ltI (a b : Itm) : Bool := decide (cI a b < 0)
theorem mq_cI (F : Nat) (a b : Itm) : mq_scrub_Compare_2 F a b = some (cI a b) := by
  unfold mq_scrub_Compare_2 mq_scrub_compare cI
  cases Op.bytesLess a.c0.toList b.c0.toList <;> cases (a.c0.toList == b.c0.toList) <;> rfl

/-! ### The order of names -/
theorem bl_cons (a b : UInt8) (x y : List UInt8) : Op.bytesLess (a :: x) (b :: y) = (decide (a.toNat < b.toNat) || (decide (a.toNat = b.toNat) && Op.bytesLess x y)) := by
  have h1 : decide (a < b) = decide (a.toNat < b.toNat) := decide_eq_decide.2 UInt8.lt_iff_toNat_lt
  have h2 : (a == b) = decide (a.toNat = b.toNat) := by rw [Bool.eq_iff_iff]; simp [UInt8.toNat_inj]
  rw [Op.bytesLess, h1, h2]
theorem bl_as : ∀ x y : List UInt8, Op.bytesLess x y = true → Op.bytesLess y x = false
  | [], [], h => by simp [Op.bytesLess] at h
  | [], _ :: _, h => rfl
  | _ :: _, [], h => by simp [Op.bytesLess] at h
  | a :: x, b :: y, h => by
    have ih := bl_as x y
    rw [bl_cons] at h ⊢
    simp only [Bool.or_eq_true, Bool.and_eq_true, decide_eq_true_eq, Bool.or_eq_false_iff, Bool.and_eq_false_iff, decide_eq_false_iff_not] at h ⊢
    rcases h with h | ⟨h1, h2⟩
    · exact ⟨by omega, .inl (by omega)⟩
    · exact ⟨by omega, .inr (ih h2)⟩
theorem bl_tr : ∀ x y z : List UInt8, Op.bytesLess y x = false → Op.bytesLess z y = false → Op.bytesLess z x = false
  | [], y, z, h1, h2 => by cases z <;> rfl
  | a :: x, [], z, h1, h2 => by simp [Op.bytesLess] at h1
  | a :: x, b :: y, [], h1, h2 => by simp [Op.bytesLess] at h2
  | a :: x, b :: y, c :: z, h1, h2 => by
    have ih := bl_tr x y z
    rw [bl_cons] at h1 h2 ⊢
    simp only [Bool.or_eq_false_iff, Bool.and_eq_false_iff, decide_eq_false_iff_not] at h1 h2 ⊢
    refine ⟨by omega, ?_⟩
    by_cases hc : c.toNat = a.toNat
    · exact .inr (ih (h1.2.resolve_left (by omega)) (h2.2.resolve_left (by omega)))
    · exact .inl hc
theorem ltI_is (a b : Itm) : ltI a b = Op.bytesLess a.c0.toList b.c0.toList := by
  unfold ltI cI
  cases Op.bytesLess a.c0.toList b.c0.toList <;> cases (a.c0.toList == b.c0.toList) <;> rfl
theorem ordI : Order ltI (fun _ => True) :=
  ⟨fun x y z _ _ _ h1 h2 => by rw [ltI_is] at *; exact bl_tr _ _ _ h1 h2, fun x y _ _ h => by rw [ltI_is] at *; exact bl_as _ _ h⟩
theorem allI (L : List Itm) : AllS dI (fun _ => True) L := fun _ _ => trivial

/-! ### The insertion sort -/
theorem loop_bub {ρ : Type} (a : Nat) (K : List Itm → Option ρ) (st : (Int × List Itm → Option ρ) → Int × List Itm → Option ρ)
    (hs : ∀ nx (j : Nat) l, j < l.length → l.length ≤ 1048576 → st nx ((j : Int), l) = if a < j ∧ cI (l.getD j dI) (l.getD (j - 1) dI) < 0 then nx (((j - 1 : Nat) : Int), (l.set j (l.getD (j - 1) dI)).set (j - 1) (l.getD j dI)) else K l) :
    ∀ (n j : Nat) (l : List Itm), j < n → j < l.length → l.length ≤ 1048576 → loopW st n ((j : Int), l) = K (bub dI cI a j l)
  | 0, j, l, h, _, _ => by omega
  | n + 1, j, l, h, hj, hl => by
    rw [loopW, hs _ _ _ hj hl]
    by_cases hc : a < j ∧ cI (l.getD j dI) (l.getD (j - 1) dI) < 0
    · rw [if_pos hc, loop_bub a K st hs n (j - 1) _ (by omega) (by simp; omega) (by simpa using hl), bub_go hc.1 hc.2]
    · rw [if_neg hc]
      by_cases h1 : a < j
      · rw [bub_end (fun q => hc ⟨h1, q⟩)]
      · rw [bub_stop h1]

theorem loop_ins {ρ : Type} (a b : Nat) (L : List Itm) (hL : L.length ≤ 1048576) (R : List Itm → Option ρ) (st : (Int × List Itm → Option ρ) → Int × List Itm → Option ρ)
    (hs : ∀ nx (i : Nat) l, l.length = L.length → st nx ((i : Int), l) = if i < b then nx (((i + 1 : Nat) : Int), bub dI cI a i l) else R l) :
    ∀ (n i : Nat) (L1 : List Itm), L1 = insS dI cI a (i - (a + 1)) L → b < n + i → 0 < n → a + 1 ≤ i → i ≤ max b (a + 1) → loopW st n ((i : Int), L1) = R (insS dI cI a (b - (a + 1)) L)
  | 0, i, L1, e, h, h0, h1, h2 => by omega
  | n + 1, i, L1, e, h, h0, h1, h2 => by
    subst e
    rw [loopW, hs _ _ _ (insS_len _ _)]
    by_cases hc : i < b
    · rw [if_pos hc, ← insS_step h1]
      exact loop_ins a b L hL R st hs n (i + 1) _ rfl (by omega) (by omega) (by omega) (by omega)
    · rw [if_neg hc, show i - (a + 1) = b - (a + 1) by omega]

theorem mq_insert (F : Nat) (L : List Itm) (a b : Nat) (ha : a ≤ L.length) (hb : b ≤ L.length) (hL : L.length ≤ 1048576) (hF : L.length + 1 < F) :
    mq_slices_insertionSortCmpFunc_scrub_Fix_ F L (a : Int) (b : Int) = some (insS dI cI a (b - (a + 1)) L) := by
  simp only [mq_slices_insertionSortCmpFunc_scrub_Fix_]
  rw [grd_pos _ (by unfold I64; omega)]
  refine loop_ins a b L hL some _ (fun nx i l hl => ?_) F (a + 1) L (by rw [Nat.sub_self]; rfl) (by omega) (by omega) (by omega) (by omega)
  dsimp only
  by_cases hc : i < b
  · rw [decide_eq_true (show (i : Int) < (b : Int) by omega), cond_true, if_pos hc]
    refine (loop_bub a (fun l' => grd (I64 ((i : Int) + 1)) (nx ((i : Int) + 1, l'))) _ (fun nx' j l' hj hl' => ?_) F i l (by omega) (by omega) (by omega)).trans ?_
    · dsimp only [jn]
      by_cases h1 : a < j
      · have t1 : Int.toNat ((j : Int) - 1) = j - 1 := by omega
        rw [decide_eq_true (show (j : Int) > (a : Int) by omega), cond_true, grd_pos _ (by unfold Ix; omega), grd_pos _ (by unfold I64; omega), grd_pos _ (by unfold Ix; omega), mq_cI, Option.bind_some, t1, Int.toNat_natCast]
        by_cases h2 : cI (l'.getD j dI) (l'.getD (j - 1) dI) < 0
        · rw [decide_eq_true h2, cond_true, grd_pos _ (by unfold I64; omega), grd_pos _ (by unfold Ix; omega), grd_pos _ (by unfold Ix; omega), grd_pos _ (by unfold Ix; rw [List.length_set]; omega), if_pos ⟨h1, h2⟩, show ((j : Int) - 1) = ((j - 1 : Nat) : Int) by omega]
        · rw [decide_eq_false h2, cond_false, if_neg (fun q => h2 q.2)]
      · rw [decide_eq_false (show ¬ (j : Int) > (a : Int) by omega), cond_false, cond_false, if_neg (fun q => h1 q.1)]
    · rw [grd_pos _ (by unfold I64; omega)]; rfl
  · rw [decide_eq_false (show ¬ (i : Int) < (b : Int) by omega), cond_false, if_neg hc]

/-! ### Swaps and rotations -/
theorem loop_swap {ρ : Type} (a b n : Nat) (L : List Itm) (hab : a + n ≤ b) (hb : b + n ≤ L.length) (R : List Itm → Option ρ) (st : (List Itm → Option ρ) → Nat → List Itm → Option ρ) (fin : Nat → List Itm → Option ρ)
    (hs : ∀ nx c l, c < n → l.length = L.length → st nx c l = nx ((l.set (a + c) (l.getD (b + c) dI)).set (b + c) (l.getD (a + c) dI))) (hf : ∀ c l, fin c l = R l) :
    ∀ (k c : Nat) (L' : List Itm), c + k = n → SwP dI L a b c L' → ∃ T, SwP dI L a b n T ∧ loopC st fin k c L' = R T
  | 0, c, L', h, hP => ⟨L', by rw [show c = n by omega] at hP; exact hP, by rw [loopC, hf]⟩
  | k + 1, c, L', h, hP => by
    have := loop_swap a b n L hab hb R st fin hs hf k (c + 1) _ (by omega) (SwP.step dI hP (by omega) (by omega))
    rw [loopC, hs _ _ _ (by omega) hP.1]
    exact this

theorem mq_swap (F : Nat) (L : List Itm) (a b n : Nat) (hab : a + n ≤ b) (hb : b + n ≤ L.length) (hL : L.length ≤ 1048576) :
    ∃ T, SwP dI L a b n T ∧ mq_slices_swapRangeCmpFunc_scrub_Fix_ F L (a : Int) (b : Int) (n : Int) = some T := by
  simp only [mq_slices_swapRangeCmpFunc_scrub_Fix_]
  rw [grd_pos _ (by omega), show Int.toNat ((n : Int) - ((0 : Nat) : Int)) = n by omega]
  refine loop_swap a b n L hab hb some _ _ (fun nx c l hc hl => ?_) (fun c l => rfl) n 0 L (by omega) (SwP.zero dI L a b)
  rw [show ((a : Int) + (c : Int)) = ((a + c : Nat) : Int) by omega, show ((b : Int) + (c : Int)) = ((b + c : Nat) : Int) by omega, Int.toNat_natCast, Int.toNat_natCast]
  rw [grd_pos _ (by unfold I64; omega), grd_pos _ (by unfold I64; omega), grd_pos _ (by unfold Ix; omega), grd_pos _ (by unfold Ix; omega), grd_pos _ (by unfold Ix; rw [List.length_set]; omega)]

theorem loop_rot {ρ : Type} (m : Nat) (R : List Itm → Option ρ) (st : (Int × Int × List Itm → Option ρ) → Int × Int × List Itm → Option ρ)
    (hl : ∀ nx (i j : Nat) l, l.length ≤ 1048576 → j < i → 1 ≤ j → i ≤ m → m + j ≤ l.length → ∃ l', SwP dI l (m - i) m j l' ∧ st nx ((i : Int), (j : Int), l) = nx (((i - j : Nat) : Int), (j : Int), l'))
    (hr : ∀ nx (i j : Nat) l, l.length ≤ 1048576 → i < j → 1 ≤ i → i ≤ m → m + j ≤ l.length → ∃ l', SwP dI l (m - i) (m + j - i) i l' ∧ st nx ((i : Int), (j : Int), l) = nx ((i : Int), ((j - i : Nat) : Int), l'))
    (he : ∀ nx (i : Nat) l, l.length ≤ 1048576 → 1 ≤ i → i ≤ m → m + i ≤ l.length → ∃ l', SwP dI l (m - i) m i l' ∧ st nx ((i : Int), (i : Int), l) = R l') :
    ∀ (n i j : Nat) (l : List Itm) (s e : Nat), s = m - i → e = m + j → i + j < n → 1 ≤ i → 1 ≤ j → i ≤ m → m + j ≤ l.length → l.length ≤ 1048576 → ∃ T, RotP dI l s m e T ∧ loopW st n ((i : Int), (j : Int), l) = R T
  | 0, i, j, l, s, e, _, _, h, _, _, _, _, _ => by omega
  | n + 1, i, j, l, s, e, hs1, hs2, h, h1, h2, h3, h4, h5 => by
    subst hs1 hs2
    rw [loopW]
    rcases Nat.lt_trichotomy j i with hc | hc | hc
    · obtain ⟨l', hsw, e⟩ := hl (fun s' => loopW st n s') i j l h5 hc h2 h3 h4
      obtain ⟨T, hT, e2⟩ := loop_rot m R st hl hr he n (i - j) j l' _ _ rfl rfl (by omega) (by omega) h2 (by omega) (by rw [hsw.1]; exact h4) (by rw [hsw.1]; exact h5)
      exact ⟨T, RotP.left dI hc h3 hsw hT, e.trans e2⟩
    · subst hc
      obtain ⟨l', hsw, e⟩ := he (fun s' => loopW st n s') j l h5 h1 h3 h4
      exact ⟨l', RotP.last dI h3 hsw, e⟩
    · obtain ⟨l', hsw, e⟩ := hr (fun s' => loopW st n s') i j l h5 hc h1 h3 h4
      obtain ⟨T, hT, e2⟩ := loop_rot m R st hl hr he n i (j - i) l' _ _ rfl rfl (by omega) h1 (by omega) h3 (by rw [hsw.1]; omega) (by rw [hsw.1]; exact h5)
      exact ⟨T, RotP.right dI hc h3 hsw hT, e.trans e2⟩

theorem mq_rotate (F : Nat) (L : List Itm) (s m e : Nat) (h1 : s < m) (h2 : m < e) (h3 : e ≤ L.length) (hL : L.length ≤ 1048576) (hF : e - s < F) :
    ∃ T, RotP dI L s m e T ∧ mq_slices_rotateCmpFunc_scrub_Fix_ F L (s : Int) (m : Int) (e : Int) = some T := by
  simp only [mq_slices_rotateCmpFunc_scrub_Fix_]
  rw [grd_pos _ (by unfold I64; omega), grd_pos _ (by unfold I64; omega), show ((m : Int) - (s : Int)) = ((m - s : Nat) : Int) by omega, show ((e : Int) - (m : Int)) = ((e - m : Nat) : Int) by omega]
  refine loop_rot (ρ := List Itm) m some _ (fun nx i j l hl hc hj hi hm => ?_) (fun nx i j l hl hc hj hi hm => ?_) (fun nx i l hl hj hi hm => ?_) F (m - s) (e - m) L s e (by omega) (by omega) (by omega) (by omega) (by omega) (by omega) (by omega) hL
  · obtain ⟨T, hT, eT⟩ := mq_swap F l (m - i) m j (by omega) (by omega) hl
    refine ⟨T, hT, ?_⟩
    dsimp only
    rw [show ((i : Int) != (j : Int)) = true by simp; omega, cond_true, decide_eq_true (show (i : Int) > (j : Int) by omega), cond_true, grd_pos _ (by unfold I64; omega), show ((m : Int) - (i : Int)) = ((m - i : Nat) : Int) by omega, eT, Option.bind_some, grd_pos _ hT.1, grd_pos _ (by unfold I64; omega), show ((i : Int) - (j : Int)) = ((i - j : Nat) : Int) by omega]
  · obtain ⟨T, hT, eT⟩ := mq_swap F l (m - i) (m + j - i) i (by omega) (by omega) hl
    refine ⟨T, hT, ?_⟩
    dsimp only
    rw [show ((i : Int) != (j : Int)) = true by simp; omega, cond_true, decide_eq_false (show ¬ (i : Int) > (j : Int) by omega), cond_false, grd_pos _ (by unfold I64; omega), grd_pos _ (by unfold I64; omega), grd_pos _ (by unfold I64; omega), show ((m : Int) - (i : Int)) = ((m - i : Nat) : Int) by omega, show ((m : Int) + (j : Int) - (i : Int)) = ((m + j - i : Nat) : Int) by omega, eT, Option.bind_some, grd_pos _ hT.1, grd_pos _ (by unfold I64; omega), show ((j : Int) - (i : Int)) = ((j - i : Nat) : Int) by omega]
  · obtain ⟨T, hT, eT⟩ := mq_swap F l (m - i) m i (by omega) (by omega) hl
    refine ⟨T, hT, ?_⟩
    dsimp only
    rw [show ((i : Int) != (i : Int)) = false by simp, cond_false, grd_pos _ (by unfold I64; omega), show ((m : Int) - (i : Int)) = ((m - i : Nat) : Int) by omega, eT, Option.bind_some, grd_pos _ hT.1]

end Go.Proofs.Ytcegkgbceogflaa
