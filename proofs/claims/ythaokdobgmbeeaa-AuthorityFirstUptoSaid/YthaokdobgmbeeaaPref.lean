/-
  CHAPTER 16: the document's rank, by shifts, is the same one.
-/
import Derived.Test.YthaokdobgmbeeaaPblk
set_option linter.unusedVariables false
namespace Go.Proofs.Ythaokdobgmbeeaa
open Go Sx

section
variable {lt : Int → Int → Bool} {S : Int → Prop}

/-- From place k on up to place m all have gone up by one. -/
def ShP (L : List Int) (m k : Nat) (L' : List Int) : Prop := L'.length = L.length ∧ ∀ t, L'.getD t 0 = if k < t ∧ t ≤ m then L.getD (t - 1) 0 else L.getD t 0
theorem ShP.zero (L : List Int) (m : Nat) : ShP L m m L := ⟨rfl, fun t => by rw [if_neg (by omega)]⟩
theorem ShP.step {L L' : List Int} {m k : Nat} (h : ShP L m k L') (hk : 1 ≤ k) (hkm : k ≤ m) (hm : m < L.length) : ShP L m (k - 1) (L'.set k (L'.getD (k - 1) 0)) := by
  refine ⟨by simp [h.1], fun t => ?_⟩
  have e := h.2 (k - 1)
  rw [if_neg (by omega)] at e
  rw [getD_setI, h.1, e, h.2 t]
  by_cases h1 : k = t
  · subst h1
    rw [if_pos ⟨rfl, by omega⟩, if_pos (by omega)]
  · rw [if_neg (fun hc => h1 hc.1)]
    (repeat' split) <;> first | rfl | (exfalso; omega)
theorem ShP.down {L L' : List Int} {m k : Nat} (h : ShP L m k L') (hkm : k ≤ m) (hm : m < L.length) : DownP 0 L m k (L'.set k (L.getD m 0)) := by
  refine ⟨by simp [h.1], fun t => ?_⟩
  rw [getD_setI, h.1, h.2 t]
  by_cases h1 : k = t
  · subst h1
    rw [if_pos ⟨rfl, by omega⟩, if_neg (by omega), if_pos rfl]
  · rw [if_neg (fun hc => h1 hc.1)]
    (repeat' split) <;> first | rfl | (exfalso; omega)

theorem mem_upTo {x : Int} : ∀ {n : Nat}, x ∈ upTo n → 0 ≤ x ∧ x < (n : Int)
  | 0, h => by cases h
  | n + 1, h => by
    rcases List.mem_append.1 h with h | h
    · have := mem_upTo h; omega
    · rw [List.mem_singleton.1 h]; omega

/-- What the rank is, so far. -/
def soFar (lt : Int → Int → Bool) (i : Nat) : List Int := isort lt (upTo i)
theorem soFar_len (i : Nat) : (soFar lt i).length = i := by rw [soFar, isort_len, upTo_len]
theorem soFar_within (i : Nat) : Within i (soFar lt i) := fun j hj => by
  have : (soFar lt i).getD j 0 ∈ soFar lt i := by
    rw [List.getD, List.getElem?_eq_getElem hj]
    exact List.getElem_mem hj
  exact mem_upTo ((mem_isort lt _ _).1 this)

theorem soFar_step (H : Order lt S) {i k : Nat} {L' : List Int} (hS : ∀ z : Int, 0 ≤ z → z ≤ (i : Int) → S z) (hk : k ≤ i) (h : ShP (soFar lt i ++ [(i : Int)]) i k L')
    (h1 : k = 0 ∨ lt (i : Int) (L'.getD (k - 1) 0) = false) (h2 : ∀ t, k ≤ t → t < i → lt (i : Int) ((soFar lt i ++ [(i : Int)]).getD t 0) = true) : L'.set k (i : Int) = soFar lt (i + 1) := by
  have hl : (soFar lt i ++ [(i : Int)]).length = i + 1 := by rw [List.length_append, soFar_len]; rfl
  have hm : (soFar lt i ++ [(i : Int)]).getD i 0 = (i : Int) := by
    rw [List.getD, List.getElem?_append_right (by rw [soFar_len]; exact Nat.le_refl _), soFar_len, Nat.sub_self]; rfl
  have hat : ∀ t, t < i → (soFar lt i ++ [(i : Int)]).getD t 0 = (soFar lt i).getD t 0 := fun t ht => by
    rw [List.getD, List.getD, List.getElem?_append_left (by rw [soFar_len]; exact ht)]
  have hd := h.down hk (by omega)
  rw [hm] at hd
  have hSi : ∀ t, t < i → S ((soFar lt i).getD t 0) := fun t ht => by
    have := soFar_within (lt := lt) i t (by rw [soFar_len]; exact ht)
    exact hS _ this.1 (by omega)
  have hr := isort_rises 0 lt H (upTo i) (fun x hx => by have := mem_upTo hx; exact hS x this.1 (by omega))
  have hd1 : ∀ t, 0 ≤ t → t < k → lt ((soFar lt i ++ [(i : Int)]).getD i 0) ((soFar lt i ++ [(i : Int)]).getD t 0) = false := fun t _ g => by
    rcases h1 with h1 | h1
    · omega
    · have e := h.2 (k - 1)
      rw [if_neg (by omega), hat _ (by omega)] at e
      rw [e] at h1
      rw [hm, hat t (by omega)]
      by_cases ht : t = k - 1
      · rw [ht]; exact h1
      · exact H.tr _ _ _ (hSi t (by omega)) (hSi (k - 1) (by omega)) (hS _ (by omega) (by omega)) (hr t (k - 1) (by omega) (by rw [isort_len, upTo_len]; omega)) h1
  have hd2 : ∀ t, k ≤ t → t < i → lt ((soFar lt i ++ [(i : Int)]).getD i 0) ((soFar lt i ++ [(i : Int)]).getD t 0) = true := fun t g1 g2 => by rw [hm]; exact h2 t g1 g2
  have hp := DownP.sym 0 lt hd (Nat.zero_le _) hk hd1 hd2
  have e := hp.2.2
  rw [Nat.sub_zero, Nat.sub_zero, show i + 1 - i = 1 by omega, seg_one, hm] at e
  have f1 : seg 0 (L'.set k (i : Int)) 0 (i + 1) = L'.set k (i : Int) := by
    have hl2 : (L'.set k (i : Int)).length = i + 1 := by rw [List.length_set, h.1, hl]
    conv => lhs; rw [← hl2]
    exact seg_all 0 _
  have f2 : seg 0 (soFar lt i ++ [(i : Int)]) 0 i = soFar lt i := by
    have hl3 : (soFar lt i).length = i := soFar_len i
    conv => rhs; rw [← seg_all 0 (soFar lt i), hl3]
    exact seg_congr 0 fun t ht => by rw [Nat.zero_add]; exact hat t ht
  rw [f1, f2] at e
  rw [e]
  unfold soFar
  rw [upTo, isort_snoc]
  have := insR_mergeL lt H (S := S) (y := (i : Int)) (hS _ (by omega) (by omega)) (isort lt (upTo i)) [] (fun x hx => by have := mem_upTo ((mem_isort lt _ _).1 hx); exact hS x this.1 (by omega)) (fun x hx => by cases hx)
  rw [mergeL_nil] at this
  exact this
theorem ShP.back {i k : Nat} {L' : List Int} (h : ShP (soFar lt i ++ [(i : Int)]) i k L') (h1 : 1 ≤ k) (h2 : k ≤ i) :
    0 ≤ L'.getD (k - 1) 0 ∧ L'.getD (k - 1) 0 < (i : Int) ∧ L'.getD (k - 1) 0 = (soFar lt i ++ [(i : Int)]).getD (k - 1) 0 ∧ L'.length = i + 1 := by
  have e := h.2 (k - 1)
  rw [if_neg (by omega)] at e
  have e2 : (soFar lt i ++ [(i : Int)]).getD (k - 1) 0 = (soFar lt i).getD (k - 1) 0 := by
    rw [List.getD, List.getD, List.getElem?_append_left (by rw [soFar_len]; omega)]
  have := soFar_within (lt := lt) i (k - 1) (by rw [soFar_len]; omega)
  rw [← e2, ← e] at this
  exact ⟨this.1, this.2, e, by rw [h.1, List.length_append, soFar_len]; rfl⟩
end

theorem orderF_soFar (osds : List Int) (infos : List Inf) (self : Int) (m : Nat) : orderF osds infos self m = soFar (ltI osds infos self) m := by
  have := insS_all (c := fun u v => rankF osds infos self (Int.toNat u) (Int.toNat v)) (S := fun _ => True) (l := upTo m) (ltI osds infos self) (fun u v => rfl) (rank_order osds infos self _) (fun k _ => trivial)
  rw [upTo_len] at this
  exact this

/-- 'ahead' is the order of the rank. -/
theorem ahead1 {osds : List Int} {infos : List Inf} {self x y : Int} (h : infF (infos.getD (Int.toNat x) dI) (infos.getD (Int.toNat y) dI) ≠ 0) :
    decide (infF (infos.getD (Int.toNat x) dI) (infos.getD (Int.toNat y) dI) > 0) = ltI osds infos self x y := by
  have a := infF_anti (infos.getD (Int.toNat x) dI) (infos.getD (Int.toNat y) dI)
  rw [Bool.eq_iff_iff, ltI_is, decide_eq_true_eq]
  omega
theorem ahead2 {osds : List Int} {infos : List Inf} {self x y : Int} (h : infF (infos.getD (Int.toNat x) dI) (infos.getD (Int.toNat y) dI) = 0)
    (h2 : ¬ (osds.getD (Int.toNat x) 0 == self) = (osds.getD (Int.toNat y) 0 == self)) : (osds.getD (Int.toNat x) 0 == self) = ltI osds infos self x y := by
  have a := infF_anti (infos.getD (Int.toNat x) dI) (infos.getD (Int.toNat y) dI)
  rw [Bool.eq_iff_iff, ltI_is, beq_iff_eq]
  rw [Bool.eq_iff_iff, beq_iff_eq, beq_iff_eq] at h2
  omega
theorem ahead3 {osds : List Int} {infos : List Inf} {self x y : Int} (h : infF (infos.getD (Int.toNat x) dI) (infos.getD (Int.toNat y) dI) = 0)
    (h2 : (osds.getD (Int.toNat x) 0 == self) = (osds.getD (Int.toNat y) 0 == self)) : decide (osds.getD (Int.toNat x) 0 < osds.getD (Int.toNat y) 0) = ltI osds infos self x y := by
  have a := infF_anti (infos.getD (Int.toNat x) dI) (infos.getD (Int.toNat y) dI)
  rw [Bool.eq_iff_iff, ltI_is, decide_eq_true_eq]
  rw [Bool.eq_iff_iff, beq_iff_eq, beq_iff_eq] at h2
  omega

end Go.Proofs.Ythaokdobgmbeeaa
