/-
  CHAPTER 21: plain facts on the models: slices.SortStableFunc makes what the insertion sort makes; so does the reference.
-/
import Derived.Test.YtcegkgbceogflaaP21sb
set_option linter.unusedVariables false
set_option linter.unusedSimpArgs false
set_option maxRecDepth 100000
namespace Go.Proofs.Ytcegkgbceogflaa
open Go Go.RowKit Sx

abbrev SI : Itm → Prop := fun _ => True
theorem hltI : ∀ u v, ltI u v = decide (cI u v < 0) := fun _ _ => rfl

theorem loop_first {ρ : Type} (l0 : List Itm) (r : ρ) (st : (Nat × Nat × List Itm → Option ρ) → Nat × Nat × List Itm → Option ρ)
    (hs : ∀ nx q L, First dI ltI SI l0 q L → 20 * q + 20 ≤ l0.length → st nx (20 * q, 20 * q + 20, L) = nx (20 * (q + 1), 20 * (q + 1) + 20, insS dI cI (20 * q) (20 * q + 20 - (20 * q + 1)) L))
    (hk : ∀ nx q L, First dI ltI SI l0 q L → l0.length < 20 * q + 20 → st nx (20 * q, 20 * q + 20, L) = some r) :
    ∀ (n q : Nat) (L : List Itm), l0.length - 20 * q < n → First dI ltI SI l0 q L → loopW st n (20 * q, 20 * q + 20, L) = some r
  | 0, q, L, h, _ => by omega
  | n + 1, q, L, h, hF => by
    rw [loopW]
    by_cases hc : 20 * q + 20 ≤ l0.length
    · rw [hs _ _ _ hF hc]
      exact loop_first l0 r st hs hk n (q + 1) _ (by omega) (First.step hltI ordI hF hc)
    · exact hk _ _ _ hF (by omega)

def Facts (l0 : List Itm) (bz : Nat) (K : List Itm) : Prop := K.length = l0.length ∧ ∀ k, Blk dI ltI l0 bz K (k * bz)

theorem loop_blocks {ρ : Type} (l0 : List Itm) (r : ρ) (st : (Int × List Itm → Option ρ) → Int × List Itm → Option ρ)
    (hs : ∀ (nx : Int × List Itm → Option ρ) (bz : Nat) K, 20 ≤ bz → bz < l0.length → Facts l0 bz K → (∀ M, Facts l0 (2 * bz) M → nx (((2 * bz : Nat) : Int), M) = some r) → st nx ((bz : Int), K) = some r)
    (hk : ∀ nx (bz : Nat) K, Facts l0 bz K → l0.length ≤ bz → st nx ((bz : Int), K) = some r) :
    ∀ (n bz : Nat) (K : List Itm), l0.length - bz < n → 20 ≤ bz → Facts l0 bz K → loopW st n ((bz : Int), K) = some r
  | 0, bz, K, h, _, _ => by omega
  | n + 1, bz, K, h, hb, hF => by
    rw [loopW]
    by_cases hc : bz < l0.length
    · exact hs _ _ _ hb hc hF (fun M hM => loop_blocks l0 r st hs hk n (2 * bz) M (by omega) (by omega) hM)
    · exact hk _ _ _ hF (by omega)

theorem loop_merge {ρ : Type} (l0 : List Itm) (r : ρ) (bz : Nat) (hb : 0 < bz) (st : (Int × Int × List Itm → Option ρ) → Int × Int × List Itm → Option ρ)
    (hs : ∀ nx (a q : Nat) L, Merging dI ltI SI l0 bz a q L → a + 2 * bz ≤ l0.length → ∃ M, SymP dI ltI L a (a + bz) (a + 2 * bz) M ∧ st nx ((a : Int), ((a + 2 * bz : Nat) : Int), L) = nx (((a + 2 * bz : Nat) : Int), ((a + 2 * bz + 2 * bz : Nat) : Int), M))
    (hk : ∀ nx (a q : Nat) L, Merging dI ltI SI l0 bz a q L → l0.length < a + 2 * bz → st nx ((a : Int), ((a + 2 * bz : Nat) : Int), L) = some r) :
    ∀ (n a q : Nat) (L : List Itm), l0.length - a < n → Merging dI ltI SI l0 bz a q L → loopW st n ((a : Int), ((a + 2 * bz : Nat) : Int), L) = some r
  | 0, a, q, L, h, _ => by omega
  | n + 1, a, q, L, h, hM => by
    rw [loopW]
    by_cases hc : a + 2 * bz ≤ l0.length
    · obtain ⟨M, hP, e⟩ := hs (fun s' => loopW st n s') _ _ _ hM hc
      rw [e]
      exact loop_merge l0 r bz hb st hs hk n (a + 2 * bz) (q + 1) M (by omega) (hM.step ordI (allI l0) hb hc hP)
    · exact hk _ _ _ _ hM (by omega)

theorem mq_stable (F : Nat) (l : List Itm) (hl : l.length ≤ 1048576) (hF : 2 * l.length + 30 < F) : mq_slices_stableCmpFunc_scrub_Fix_ F l ((l.length : Nat) : Int) = some (isort ltI l) := by
  simp only [mq_slices_stableCmpFunc_scrub_Fix_]
  refine loop_first l (isort ltI l) _ (fun nx q L hq hc => ?_) (fun nx q L hq hc => ?_) F 0 l (by omega) (First.start (allI l))
  · have hL := hq.len
    dsimp only
    rw [decide_eq_true (show ((20 * q + 20 : Nat) : Int) ≤ ((l.length : Nat) : Int) by omega), cond_true, mq_insert F L (20 * q) (20 * q + 20) (by omega) (by omega) (by omega) (by omega), Option.bind_some, grd_pos _ (insS_len _ _), grd_pos _ (by unfold Len; omega)]
    rfl
  · have hL := hq.len
    have hle := hq.le
    dsimp only
    rw [decide_eq_false (show ¬ ((20 * q + 20 : Nat) : Int) ≤ ((l.length : Nat) : Int) by omega), cond_false, mq_insert F L (20 * q) l.length (by omega) (by omega) (by omega) (by omega), Option.bind_some, grd_pos _ (insS_len _ _)]
    obtain ⟨n1, n2, n3⟩ := First.last hltI ordI hq hc
    refine loop_blocks l (isort ltI l) _ (fun nx bz K hb hbl hK hn => ?_) (fun nx bz K hK hbl => ?_) F 20 _ (by omega) (Nat.le_refl _) ⟨n1, n3⟩
    · dsimp only
      rw [decide_eq_true (show (bz : Int) < ((l.length : Nat) : Int) by omega), cond_true, grd_pos _ (by unfold I64; omega), show (2 * (bz : Int)) = ((0 + 2 * bz : Nat) : Int) by omega]
      refine loop_merge l (isort ltI l) bz (by omega) _ (fun nx' a q M hM hc' => ?_) (fun nx' a q M hM hc' => ?_) F 0 0 K (by omega) (Merging.start hK.1 (allI K) hK.2)
      · have hMl := hM.len
        obtain ⟨T, hT, eT⟩ := mq_sym F M a (a + bz) (a + 2 * bz) (by omega) (by omega) (by omega) (by omega) (by omega) (hM.rise1 ordI (allI l) (by omega)) (hM.rise2 ordI (allI l) (Nat.le_refl _) (by omega))
        refine ⟨T, hT, ?_⟩
        dsimp only
        rw [decide_eq_true (by omega), cond_true, grd_pos _ (by unfold I64; omega), show ((a : Int) + (bz : Int)) = ((a + bz : Nat) : Int) by omega, eT, Option.bind_some, grd_pos _ hT.1, grd_pos _ (by unfold I64; omega), show (((a + 2 * bz : Nat) : Int) + ((0 + 2 * bz : Nat) : Int)) = ((a + 2 * bz + 2 * bz : Nat) : Int) by omega]
      · have hMl := hM.len
        have hMle := hM.le
        dsimp only [jn]
        rw [decide_eq_false (by omega), cond_false, grd_pos _ (by unfold I64; omega), show ((a : Int) + (bz : Int)) = ((a + bz : Nat) : Int) by omega]
        by_cases hd : a + bz < l.length
        · obtain ⟨T, hT, eT⟩ := mq_sym F M a (a + bz) l.length (by omega) (by omega) (by omega) (by omega) (by omega) (hM.rise1 ordI (allI l) (by omega)) (hM.rise2 ordI (allI l) (by omega) (Nat.le_refl _))
          obtain ⟨y1, y2, y3⟩ := hM.last ordI (allI l) (by omega) hc' hd hT
          rw [decide_eq_true (by omega), cond_true, eT, Option.bind_some, grd_pos _ hT.1, grd_pos _ (by unfold I64; omega), show ((bz : Int) * 2) = ((2 * bz : Nat) : Int) by omega]
          exact hn T ⟨y1, y3⟩
        · rw [decide_eq_false (by omega), cond_false, grd_pos _ (by unfold I64; omega), show ((bz : Int) * 2) = ((2 * bz : Nat) : Int) by omega]
          exact hn M ⟨hMl, hM.idle (by omega) (by omega)⟩
    · dsimp only
      rw [decide_eq_false (by omega), cond_false]
      have h0 := hK.2 0
      rw [Nat.zero_mul] at h0
      rw [h0.whole hK.1 hbl]

theorem mq_sorts (F : Nat) (l : List Itm) (hl : l.length ≤ 1048576) (hF : 2 * l.length + 30 < F) : mq_slices_SortStableFunc___scrub_Fix_scrub_Fix_ F l = some (isort ltI l) := by
  simp only [mq_slices_SortStableFunc___scrub_Fix_scrub_Fix_]
  rw [mq_stable F l hl hF, Option.bind_some, grd_pos _ (isort_len _ _)]

end Go.Proofs.Ytcegkgbceogflaa
