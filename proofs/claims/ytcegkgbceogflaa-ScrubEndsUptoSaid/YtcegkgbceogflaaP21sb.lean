/-
  CHAPTER 21: plain facts on the models: the merge in place of slices.SortStableFunc.
-/
import Derived.Test.YtcegkgbceogflaaP21sa
set_option linter.unusedVariables false
set_option linter.unusedSimpArgs false
set_option maxRecDepth 100000
namespace Go.Proofs.Ytcegkgbceogflaa
open Go Go.RowKit Sx

theorem half (x y : Nat) (h : x + y ≤ 10485760) : IntKind.i64.wrap (Int.fdiv (IntKind.u64.wrap ((x : Int) + (y : Int))) (2 ^ 1)) = (((x + y) / 2 : Nat) : Int) := by
  rw [wrap_u64 (by omega) (by omega), show ((2 : Int) ^ 1) = 2 by decide, Int.fdiv_eq_ediv_of_nonneg _ (by omega), wrap_i64 (by omega) (by omega)]
  omega

theorem loop_find {ρ : Type} {Q : ρ → Prop} (p : Nat → Bool) (i0 j0 : Nat) (st : (Int × Int → Option ρ) → Int × Int → Option ρ)
    (h1 : ∀ nx (i j : Nat), i0 ≤ i → j ≤ j0 → i < j → p ((i + j) / 2) = true → st nx ((i : Int), (j : Int)) = nx ((((i + j) / 2 + 1 : Nat) : Int), (j : Int)))
    (h2 : ∀ nx (i j : Nat), i0 ≤ i → j ≤ j0 → i < j → p ((i + j) / 2) = false → st nx ((i : Int), (j : Int)) = nx ((i : Int), (((i + j) / 2 : Nat) : Int)))
    (hk : ∀ nx (x : Nat), i0 ≤ x → x ≤ j0 → (x = i0 ∨ p (x - 1) = true) → (x = j0 ∨ p x = false) → ∃ T, Q T ∧ st nx ((x : Int), (x : Int)) = some T) :
    ∀ (n i j : Nat), j - i < n → i0 ≤ i → i ≤ j → j ≤ j0 → (i = i0 ∨ p (i - 1) = true) → (j = j0 ∨ p j = false) → ∃ T, Q T ∧ loopW st n ((i : Int), (j : Int)) = some T
  | 0, i, j, h, _, _, _, _, _ => by omega
  | n + 1, i, j, h, g1, g2, g3, g4, g5 => by
    rw [loopW]
    by_cases hc : i < j
    · cases hp : p ((i + j) / 2) with
      | true =>
        rw [h1 _ _ _ g1 g3 hc hp]
        exact loop_find p i0 j0 st h1 h2 hk n _ j (by omega) (by omega) (by omega) g3 (.inr (by rw [Nat.add_sub_cancel]; exact hp)) g5
      | false =>
        rw [h2 _ _ _ g1 g3 hc hp]
        exact loop_find p i0 j0 st h1 h2 hk n i _ (by omega) g1 (by omega) (by omega) g4 (.inr hp)
    · obtain rfl : i = j := by omega
      exact hk _ i g1 g3 g4 g5

theorem loop_up {ρ : Type} {Q : ρ → Prop} (a e : Nat) (L : List Itm) (he : e < L.length) (st : (Int × List Itm → Option ρ) → Int × List Itm → Option ρ)
    (hs : ∀ nx (k : Nat) l, l.length = L.length → a ≤ k → k < e → st nx ((k : Int), l) = nx (((k + 1 : Nat) : Int), (l.set k (l.getD (k + 1) dI)).set (k + 1) (l.getD k dI)))
    (hk : ∀ nx l, UpP dI L a e l → ∃ T, Q T ∧ st nx ((e : Int), l) = some T) :
    ∀ (n k : Nat) (l : List Itm), e - k < n → a ≤ k → k ≤ e → UpP dI L a k l → ∃ T, Q T ∧ loopW st n ((k : Int), l) = some T
  | 0, k, l, h, _, _, _ => by omega
  | n + 1, k, l, h, h1, h2, hP => by
    rw [loopW]
    by_cases hc : k < e
    · rw [hs _ _ _ hP.1 h1 hc]
      exact loop_up a e L he st hs hk n (k + 1) _ (by omega) (by omega) (by omega) (UpP.step dI hP (by omega) h1)
    · obtain rfl : k = e := by omega
      exact hk _ l hP

theorem loop_down {ρ : Type} {Q : ρ → Prop} (m e : Nat) (L : List Itm) (hm : m < L.length) (st : (Int × List Itm → Option ρ) → Int × List Itm → Option ρ)
    (hs : ∀ nx (k : Nat) l, l.length = L.length → k ≤ m → e < k → st nx ((k : Int), l) = nx (((k - 1 : Nat) : Int), (l.set k (l.getD (k - 1) dI)).set (k - 1) (l.getD k dI)))
    (hk : ∀ nx l, DownP dI L m e l → ∃ T, Q T ∧ st nx ((e : Int), l) = some T) :
    ∀ (n k : Nat) (l : List Itm), k - e < n → k ≤ m → e ≤ k → DownP dI L m k l → ∃ T, Q T ∧ loopW st n ((k : Int), l) = some T
  | 0, k, l, h, _, _, _ => by omega
  | n + 1, k, l, h, h1, h2, hP => by
    rw [loopW]
    by_cases hc : e < k
    · rw [hs _ _ _ hP.1 h1 hc]
      exact loop_down m e L hm st hs hk n (k - 1) _ (by omega) (by omega) (by omega) (DownP.step' dI hP (by omega) h1 hm)
    · obtain rfl : k = e := by omega
      exact hk _ l hP

theorem jn_at {σ ρ : Type} {k : σ → Option ρ} {b : (σ → Option ρ) → Option ρ} {s : σ} (h : ∀ J, b J = J s) : jn k b = k s := h k

theorem le_lt {x y z : Itm} (h1 : ltI x y = true) (h2 : ltI z y = false) : ltI x z = true := Order.le_lt ltI ordI trivial trivial trivial h1 h2
theorem lt_le {x y z : Itm} (h1 : ltI y x = false) (h2 : ltI y z = true) : ltI x z = true := Order.lt_le ltI ordI trivial trivial trivial h1 h2
theorem ge_ge {x y z : Itm} (h1 : ltI y x = false) (h2 : ltI z y = false) : ltI z x = false := ordI.tr _ _ _ trivial trivial trivial h1 h2
theorem ltI_irr (x : Itm) : ltI x x = false := by
  cases h : ltI x x with
  | false => rfl
  | true => have := ordI.as _ _ trivial trivial h; rw [h] at this; cases this
theorem RisesS.le {L : List Itm} {s e i j : Nat} (h : RisesS dI ltI L s e) (h1 : s ≤ i) (h2 : i ≤ j) (h3 : j < e) : ltI (L.getD j dI) (L.getD i dI) = false := by
  rcases Nat.lt_or_eq_of_le h2 with g | rfl
  · exact h i j h1 g h3
  · exact ltI_irr _

theorem mq_sym : ∀ (F : Nat) (L : List Itm) (a m b : Nat), a < m → m < b → b ≤ L.length → L.length ≤ 1048576 → L.length + (b - a) < F → RisesS dI ltI L a m → RisesS dI ltI L m b →
    ∃ T, SymP dI ltI L a m b T ∧ mq_slices_symMergeCmpFunc_scrub_Fix_ F L (a : Int) (m : Int) (b : Int) = some T
  | 0, L, a, m, b, _, _, _, _, h, _, _ => by omega
  | F + 1, L, a, m, b, h1, h2, h3, hL, hF, ra, rb => by
    rw [mq_slices_symMergeCmpFunc_scrub_Fix_, grd_pos _ (by unfold I64; omega)]
    by_cases c1 : m = a + 1
    · subst c1
      have e1 : (((a + 1 : Nat) : Int) - (a : Int) == 1) = true := by rw [beq_iff_eq]; omega
      rw [e1, cond_true]
      have rb' := rb
      refine loop_find (fun t => ltI (L.getD t dI) (L.getD a dI)) (a + 1) b _ (fun nx i j g1 g2 g3 g4 => ?_) (fun nx i j g1 g2 g3 g4 => ?_) (fun nx x x1 x2 x3 x4 => ?_) F (a + 1) b (by omega) (Nat.le_refl _) (by omega) (Nat.le_refl _) (.inl rfl) (.inl rfl)
      · unfold ltI at g4
        have g5 := of_decide_eq_true g4
        dsimp only
        rw [half i j (by omega), Int.toNat_natCast, Int.toNat_natCast, decide_eq_true (show (i : Int) < (j : Int) by omega), cond_true, grd_pos _ (by unfold I64; omega), grd_pos _ (by unfold Ix; omega), grd_pos _ (by unfold Ix; omega), mq_cI, Option.bind_some, decide_eq_true g5, cond_true, grd_pos _ (by unfold I64; omega)]
        rfl
      · unfold ltI at g4
        have g5 := of_decide_eq_false g4
        dsimp only
        rw [half i j (by omega), Int.toNat_natCast, Int.toNat_natCast, decide_eq_true (show (i : Int) < (j : Int) by omega), cond_true, grd_pos _ (by unfold I64; omega), grd_pos _ (by unfold Ix; omega), grd_pos _ (by unfold Ix; omega), mq_cI, Option.bind_some, decide_eq_false g5, cond_false]
      · dsimp only
        rw [decide_eq_false (by omega), cond_false]
        refine loop_up a (x - 1) L (by omega) _ (fun nx k l hl k1 k2 => ?_) (fun nx l hP => ?_) F a L (by omega) (Nat.le_refl _) (by omega) (UpP.zero dI L a)
        · dsimp only
          rw [grd_pos _ (by unfold I64; omega), decide_eq_true (show (k : Int) < (x : Int) - 1 by omega), cond_true, show ((k : Int) + 1) = ((k + 1 : Nat) : Int) by omega, Int.toNat_natCast, Int.toNat_natCast]
          rw [grd_pos _ (by unfold I64; omega), grd_pos _ (by unfold Ix; omega), grd_pos _ (by unfold Ix; omega), grd_pos _ (by unfold Ix; rw [List.length_set]; omega)]
        · refine ⟨l, UpP.sym dI ltI (S := fun _ => True) hP x1 x2 (fun j j1 j2 => ?_) (fun j j1 j2 => ?_), ?_⟩
          · rcases x3 with x3 | x3
            · omega
            · exact lt_le (rb.le j1 (show j ≤ x - 1 by omega) (by omega)) x3
          · rcases x4 with x4 | x4
            · omega
            · exact ge_ge x4 (rb.le x1 j1 j2)
          · dsimp only
            rw [grd_pos _ (by unfold I64; omega), decide_eq_false (by omega), cond_false]
    · have e1 : (((m : Nat) : Int) - (a : Int) == 1) = false := by rw [beq_eq_false_iff_ne]; omega
      rw [e1, cond_false, grd_pos _ (by unfold I64; omega)]
      by_cases c2 : b = m + 1
      · subst c2
        have e2 : (((m + 1 : Nat) : Int) - (m : Int) == 1) = true := by rw [beq_iff_eq]; omega
        rw [e2, cond_true]
        refine loop_find (fun t => !ltI (L.getD m dI) (L.getD t dI)) a m _ (fun nx i j g1 g2 g3 g4 => ?_) (fun nx i j g1 g2 g3 g4 => ?_) (fun nx x x1 x2 x3 x4 => ?_) F a m (by omega) (Nat.le_refl _) (by omega) (Nat.le_refl _) (.inl rfl) (.inl rfl)
        · have g5 := not_true_f g4
          unfold ltI at g5
          dsimp only
          rw [half i j (by omega), Int.toNat_natCast, Int.toNat_natCast, decide_eq_true (show (i : Int) < (j : Int) by omega), cond_true, grd_pos _ (by unfold I64; omega), grd_pos _ (by unfold Ix; omega), grd_pos _ (by unfold Ix; omega), mq_cI, Option.bind_some, g5, Bool.not_false, cond_true, grd_pos _ (by unfold I64; omega)]
          rfl
        · have g5 := not_false_t g4
          unfold ltI at g5
          dsimp only
          rw [half i j (by omega), Int.toNat_natCast, Int.toNat_natCast, decide_eq_true (show (i : Int) < (j : Int) by omega), cond_true, grd_pos _ (by unfold I64; omega), grd_pos _ (by unfold Ix; omega), grd_pos _ (by unfold Ix; omega), mq_cI, Option.bind_some, g5, Bool.not_true, cond_false]
        · dsimp only
          rw [decide_eq_false (by omega), cond_false]
          refine loop_down m x L (by omega) _ (fun nx k l hl k1 k2 => ?_) (fun nx l hP => ?_) F m L (by omega) (Nat.le_refl _) x2 (DownP.zero dI L m)
          · dsimp only
            rw [decide_eq_true (show (k : Int) > (x : Int) by omega), cond_true, show ((k : Int) - 1) = ((k - 1 : Nat) : Int) by omega, Int.toNat_natCast, Int.toNat_natCast]
            rw [grd_pos _ (by unfold I64; omega), grd_pos _ (by unfold Ix; omega), grd_pos _ (by unfold Ix; omega), grd_pos _ (by unfold Ix; rw [List.length_set]; omega)]
          · refine ⟨l, DownP.sym dI ltI hP x1 x2 (fun j j1 j2 => ?_) (fun j j1 j2 => ?_), ?_⟩
            · rcases x3 with x3 | x3
              · omega
              · exact ge_ge (ra.le j1 (show j ≤ x - 1 by omega) (by omega)) (not_true_f x3)
            · rcases x4 with x4 | x4
              · omega
              · exact le_lt (not_false_t x4) (ra.le x1 j1 j2)
            · dsimp only
              rw [decide_eq_false (by omega), cond_false]
      · have e2 : (((b : Nat) : Int) - (m : Int) == 1) = false := by rw [beq_eq_false_iff_ne]; omega
        rw [e2, cond_false, half a b (by omega)]
        obtain ⟨mid, hmid⟩ : ∃ mid, mid = (a + b) / 2 := ⟨_, rfl⟩
        rw [← hmid, grd_pos _ (by unfold I64; omega), grd_pos _ (by unfold I64; omega)]
        obtain ⟨s0, r0, hsr, he⟩ : ∃ s0 r0 : Nat, ((mid < m ∧ s0 = mid + m - b ∧ r0 = mid) ∨ (m ≤ mid ∧ s0 = a ∧ r0 = m)) ∧ ∀ J : Int × Int → Option (List Itm),
            (bif decide ((m : Int) > (mid : Int)) then grd (I64 (((mid : Int) + (m : Int)) - (b : Int))) (J ((((mid : Int) + (m : Int)) - (b : Int)), (mid : Int))) else J ((a : Int), (m : Int))) = J ((s0 : Int), (r0 : Int)) := by
          by_cases hm : mid < m
          · refine ⟨mid + m - b, mid, .inl ⟨hm, rfl, rfl⟩, fun J => ?_⟩
            rw [decide_eq_true (by omega), cond_true, grd_pos _ (by unfold I64; omega), show (((mid : Int) + (m : Int)) - (b : Int)) = ((mid + m - b : Nat) : Int) by omega]
          · refine ⟨a, m, .inr ⟨by omega, rfl, rfl⟩, fun J => ?_⟩
            rw [decide_eq_false (by omega), cond_false]
        rw [jn_at he]
        dsimp only
        rw [grd_pos _ (by unfold I64; omega)]
        refine loop_find (fun t => !ltI (L.getD (mid + m - 1 - t) dI) (L.getD t dI)) s0 r0 _ (fun nx i j g1 g2 g3 g4 => ?_) (fun nx i j g1 g2 g3 g4 => ?_) (fun nx x x1 x2 x3 x4 => ?_) F s0 r0 (by omega) (Nat.le_refl _) (by omega) (Nat.le_refl _) (.inl rfl) (.inl rfl)
        · have g5 := not_true_f g4
          unfold ltI at g5
          dsimp only
          rw [half i j (by omega), decide_eq_true (show (i : Int) < (j : Int) by omega), cond_true, show ((mid : Int) + (m : Int) - 1 - (((i + j) / 2 : Nat) : Int)) = ((mid + m - 1 - (i + j) / 2 : Nat) : Int) by omega, Int.toNat_natCast, Int.toNat_natCast, grd_pos _ (by unfold I64; omega), grd_pos _ (by unfold I64; omega), grd_pos _ (by unfold Ix; omega), grd_pos _ (by unfold Ix; omega), mq_cI, Option.bind_some, g5, Bool.not_false, cond_true, grd_pos _ (by unfold I64; omega)]
          rfl
        · have g5 := not_false_t g4
          unfold ltI at g5
          dsimp only
          rw [half i j (by omega), decide_eq_true (show (i : Int) < (j : Int) by omega), cond_true, show ((mid : Int) + (m : Int) - 1 - (((i + j) / 2 : Nat) : Int)) = ((mid + m - 1 - (i + j) / 2 : Nat) : Int) by omega, Int.toNat_natCast, Int.toNat_natCast, grd_pos _ (by unfold I64; omega), grd_pos _ (by unfold I64; omega), grd_pos _ (by unfold Ix; omega), grd_pos _ (by unfold Ix; omega), mq_cI, Option.bind_some, g5, Bool.not_true, cond_false]
        · obtain ⟨e, hE⟩ : ∃ e, e = mid + m - x := ⟨_, rfl⟩
          have q1 : a ≤ x := by omega
          have q2 : x ≤ m := by omega
          have q3 : m ≤ e := by omega
          have q4 : e ≤ b := by omega
          have k1 : x = m ∨ e = m ∨ ltI (L.getD (e - 1) dI) (L.getD x dI) = true := by
            rcases x4 with h | h
            · omega
            · right; right
              rw [show e - 1 = mid + m - 1 - x by omega]; exact not_false_t h
          have k2 : x = a ∨ e = b ∨ ltI (L.getD e dI) (L.getD (x - 1) dI) = false := by
            rcases x3 with h | h
            · omega
            · by_cases hx : x = s0
              · omega
              · right; right
                rw [show e = mid + m - 1 - (x - 1) by omega]; exact not_true_f h
          obtain ⟨hY, hX⟩ := cut_facts dI ltI ordI (allI L) h3 q1 q2 q3 q4 ra rb k1 k2
          dsimp only
          rw [decide_eq_false (show ¬ (x : Int) < (x : Int) by omega), cond_false, show ((mid : Int) + (m : Int) - (x : Int)) = (e : Int) by omega, grd_pos _ (by unfold I64; omega)]
          have bb : ∀ (u v p q : Nat) (J : Bool → Option (List Itm)), (bif decide ((u : Int) < (v : Int)) then J (decide ((p : Int) < (q : Int))) else J false) = J (decide (u < v ∧ p < q)) := fun u v p q J => by
            by_cases h : u < v
            · rw [decide_eq_true (by omega), cond_true]; congr 1; exact decide_eq_decide.2 (by omega)
            · rw [decide_eq_false (by omega), cond_false, decide_eq_false (by omega)]
          rw [jn_at (bb x m m e)]
          obtain ⟨L1, hR, e1⟩ : ∃ L1, RotP dI L x m e L1 ∧ ∀ J : List Itm → Option (List Itm), (bif decide (x < m ∧ m < e) then (mq_slices_rotateCmpFunc_scrub_Fix_ F L (x : Int) (m : Int) (e : Int)).bind (fun y304 => grd (y304.length = L.length) (J y304)) else J L) = J L1 := by
            by_cases h : x < m ∧ m < e
            · obtain ⟨T, hT, eT⟩ := mq_rotate F L x m e h.1 h.2 (by omega) hL (by omega)
              refine ⟨T, hT, fun J => ?_⟩
              rw [decide_eq_true h, cond_true, eT, Option.bind_some, grd_pos _ hT.1]
            · refine ⟨L, RotP.triv dI (by omega) q2 q3, fun J => ?_⟩
              rw [decide_eq_false h, cond_false]
          rw [jn_at e1, jn_at (bb a x x mid)]
          have hl1 := hR.1
          have r1 := RotP.rises1 dI ltI hR ra q2
          have r2 := RotP.rises2 dI ltI hR rb q4
          have r3 := RotP.rises3 dI ltI hR ra q1 q3 q2
          have r4 := RotP.rises4 dI ltI hR rb q3 q2
          rw [show x + (e - m) = mid by omega] at r2 r3
          obtain ⟨L2, hP, e2⟩ : ∃ L2, SymP dI ltI L1 a x mid L2 ∧ ∀ J : List Itm → Option (List Itm), (bif decide (a < x ∧ x < mid) then (mq_slices_symMergeCmpFunc_scrub_Fix_ F L1 (a : Int) (x : Int) (mid : Int)).bind (fun y318 => grd (y318.length = L1.length) (J y318)) else J L1) = J L2 := by
            by_cases h : a < x ∧ x < mid
            · obtain ⟨T, hT, eT⟩ := mq_sym F L1 a x mid h.1 h.2 (by omega) (by omega) (by omega) r1 r2
              refine ⟨T, hT, fun J => ?_⟩
              rw [decide_eq_true h, cond_true, eT, Option.bind_some, grd_pos _ hT.1]
            · refine ⟨L1, SymP.triv dI ltI (by omega) q1 (by omega), fun J => ?_⟩
              rw [decide_eq_false h, cond_false]
          rw [jn_at e2, jn_at (bb mid e e b)]
          have hl2 := hP.1
          have r5 := SymP.rises dI ltI hP r3 (Nat.le_refl _)
          have r6 := SymP.rises dI ltI hP r4 (by omega)
          by_cases h : mid < e ∧ e < b
          · obtain ⟨T, hT, eT⟩ := mq_sym F L2 mid e b h.1 h.2 (by omega) (by omega) (by omega) r5 r6
            refine ⟨T, sym_glue dI ltI q1 q2 q3 q4 hY hX hR (by rw [show x + (e - m) = mid by omega]; exact hP) (by rw [show x + (e - m) = mid by omega]; exact hT), ?_⟩
            rw [decide_eq_true h, cond_true, eT, Option.bind_some, grd_pos _ hT.1]
          · refine ⟨L2, sym_glue dI ltI q1 q2 q3 q4 hY hX hR (by rw [show x + (e - m) = mid by omega]; exact hP) (by rw [show x + (e - m) = mid by omega]; exact SymP.triv dI ltI (by omega) (by omega) q4), ?_⟩
            rw [decide_eq_false h, cond_false]

end Go.Proofs.Ytcegkgbceogflaa
