/-
  CHAPTER 16: the rank has each osd that was told, as often; the first of it is the best.
-/
import Derived.Test.YthaokdobgmbeeaaPref
set_option linter.unusedVariables false
namespace Go.Proofs.Ythaokdobgmbeeaa
open Go Sx

theorem insR_perm (lt : Int → Int → Bool) (y : Int) : ∀ L : List Int, List.Perm (insR lt y L) (y :: L)
  | [] => List.Perm.refl _
  | z :: L => by
    rw [insR]
    split
    · exact List.Perm.refl _
    · exact ((insR_perm lt y L).cons z).trans (List.Perm.swap y z L)

theorem soFar_perm (lt : Int → Int → Bool) : ∀ n, List.Perm (soFar lt n) (upTo n)
  | 0 => List.Perm.refl _
  | n + 1 => by
    have e : soFar lt (n + 1) = insR lt (n : Int) (soFar lt n) := by unfold soFar; rw [upTo, isort_snoc]
    rw [e, upTo]
    exact (insR_perm lt _ _).trans (((soFar_perm lt n).cons (n : Int)).trans (List.perm_append_singleton (n : Int) (upTo n)).symm)

theorem mapTo_map (f : Int → Int) (s : List Int) : mapTo f s s.length = s.map f := by
  have : ∀ i, i ≤ s.length → mapTo f s i = (s.take i).map f := by
    intro i
    induction i with
    | zero => intro _; simp [mapTo]
    | succ i ih =>
      intro hi
      rw [mapTo, ih (by omega), List.take_add_one, List.map_append]
      congr 1
      rw [List.getD, List.getElem?_eq_getElem (by omega)]
      rfl
  rw [this _ (Nat.le_refl _), List.take_length]

/-- The osds of the places below i that are not used. -/
def uv (U : List Bool) (osds : List Int) : Nat → List Int
  | 0 => []
  | i + 1 => uv U osds i ++ if U.getD i false = true then [] else [osds.getD i 0]

theorem uv_same {U V : List Bool} {osds : List Int} : ∀ i, (∀ t, t < i → U.getD t false = V.getD t false) → uv U osds i = uv V osds i
  | 0, _ => rfl
  | i + 1, h => by rw [uv, uv, uv_same i (fun t ht => h t (by omega)), h i (by omega)]

theorem getD_setB (l : List Bool) (i j : Nat) (v : Bool) : (l.set i v).getD j false = if i = j ∧ j < l.length then v else l.getD j false := getD_setG false l i j v

theorem uv_use {U : List Bool} {osds : List Int} {t : Nat} (hU : U.getD t false = false) (ht : t < U.length) : ∀ m, t < m → List.Perm (uv U osds m) (osds.getD t 0 :: uv (U.set t true) osds m)
  | 0, h => by omega
  | m + 1, h => by
    rw [uv, uv]
    by_cases htm : t = m
    · subst htm
      have e1 : (U.set t true).getD t false = true := by rw [getD_setB, if_pos ⟨rfl, ht⟩]
      have e2 : uv (U.set t true) osds t = uv U osds t := uv_same t (fun s hs => by rw [getD_setB, if_neg (fun hc => by omega)])
      rw [e1, e2, hU]
      simp only [if_true, List.append_nil]
      exact List.perm_append_singleton _ _
    · have e1 : (U.set t true).getD m false = U.getD m false := by rw [getD_setB, if_neg (fun hc => htm hc.1)]
      rw [e1]
      exact (uv_use hU ht m (by omega)).append_right _

theorem uv_mem {U : List Bool} {osds : List Int} {k : Int} : ∀ {m : Nat}, k ∈ uv U osds m → ∃ t, t < m ∧ U.getD t false = false ∧ osds.getD t 0 = k
  | 0, h => by cases h
  | m + 1, h => by
    rw [uv] at h
    rcases List.mem_append.1 h with h | h
    · obtain ⟨t, h1, h2⟩ := uv_mem h
      exact ⟨t, by omega, h2⟩
    · cases hb : U.getD m false with
      | true => rw [hb] at h; simp at h
      | false =>
        rw [hb] at h
        have hk : k = osds.getD m 0 := by simpa using h
        exact ⟨m, by omega, hb, hk.symm⟩

theorem uv_start (osds : List Int) (m : Nat) : ∀ i, i ≤ m → uv (List.replicate m false) osds i = (upTo i).map fun k => osds.getD k.toNat 0
  | 0, _ => rfl
  | i + 1, h => by
    rw [uv, uv_start osds m i (by omega), upTo, List.map_append]
    have e1 : (List.replicate m false).getD i false = false := by
      rw [List.getD, List.getElem?_replicate]
      split <;> rfl
    rw [e1]
    rfl

theorem ranked_perm (osds : List Int) (infos : List Inf) (self : Int) : List.Perm (uv (List.replicate (minL osds infos) false) osds (minL osds infos)) (rankedF osds infos self) := by
  have hl : (orderF osds infos self (minL osds infos)).length = minL osds infos := orderF_len _ _ _ _
  have e : rankedF osds infos self = (orderF osds infos self (minL osds infos)).map fun k => osds.getD k.toNat 0 := by
    unfold rankedF
    rw [← mapTo_map, hl]
  rw [uv_start _ _ _ (Nat.le_refl _), e, orderF_soFar]
  exact ((soFar_perm _ _).map _).symm

/-- Is the info of place i the best among the first k? -/
def topTo (infos : List Inf) (i : Nat) : Nat → Bool
  | 0 => true
  | k + 1 => topTo infos i k && decide (infF (infos.getD k dI) (infos.getD i dI) ≤ 0)

/-- Is one of the first i the best one, with the best info and the greatest last epoch? -/
def gTo (osds : List Int) (infos : List Inf) (best les : Int) (n : Nat) : Nat → Bool
  | 0 => false
  | i + 1 => gTo osds infos best les n i || (topTo infos i n && (osds.getD i 0 == best) && ((infos.getD i dI).les == les))

theorem topTo_all {infos : List Inf} {i : Nat} : ∀ n, (∀ k, k < n → infF (infos.getD k dI) (infos.getD i dI) ≤ 0) → topTo infos i n = true
  | 0, _ => rfl
  | n + 1, h => by
    rw [topTo, topTo_all n (fun k hk => h k (by omega)), decide_eq_true (h n (by omega))]; rfl

theorem gTo_one {osds : List Int} {infos : List Inf} {best les : Int} {n a : Nat} (h1 : topTo infos a n = true) (h2 : osds.getD a 0 = best) (h3 : (infos.getD a dI).les = les) : ∀ i, a < i → gTo osds infos best les n i = true
  | 0, h => by omega
  | i + 1, h => by
    rw [gTo]
    by_cases ha : a = i
    · subst ha
      rw [h1, h2, h3]
      simp
    · rw [gTo_one h1 h2 h3 i (by omega)]; rfl

theorem lesTo_max {infos : List Inf} {a : Nat} : ∀ n, (∀ k, k < n → (infos.getD k dI).les ≤ (infos.getD a dI).les) → (a < n → lesTo infos n = (infos.getD a dI).les) ∧ (0 < n → lesTo infos n ≤ (infos.getD a dI).les)
  | 0, _ => ⟨fun h => by omega, fun h => by omega⟩
  | n + 1, h => by
    obtain ⟨h1, h2⟩ := lesTo_max n (fun k hk => h k (by omega))
    have h3 := h n (by omega)
    rw [lesTo]
    refine ⟨fun ha => ?_, fun _ => ?_⟩
    · by_cases han : a = n
      · subst han
        split
        · rfl
        · rename_i hc
          rcases Nat.eq_zero_or_pos a with h0 | h0
          · exact absurd (.inl h0) hc
          · have := h2 h0
            by_cases he : (infos.getD a dI).les > lesTo infos a
            · exact absurd (.inr he) hc
            · omega
      · have h4 := h1 (by omega)
        split
        · rename_i hc
          rcases hc with hc | hc
          · omega
          · omega
        · exact h4
    · split
      · exact h3
      · rename_i hc
        rcases Nat.eq_zero_or_pos n with h0 | h0
        · exact absurd (.inl h0) hc
        · exact h2 h0

theorem encInf_take {infos : List Inf} {m : Nat} (i : Nat) (r : List Value) (h : (encInf (infos.take m))[i]? = some r) : (encInf infos)[i]? = some r := by
  unfold encInf at *
  rw [List.getElem?_map] at *
  rw [List.getElem?_take] at h
  split at h
  · exact h
  · cases h

theorem lesTo_take {infos : List Inf} {m : Nat} : ∀ k, k ≤ m → lesTo (infos.take m) k = lesTo infos k
  | 0, _ => rfl
  | k + 1, h => by
    have e : (infos.take m).getD k dI = infos.getD k dI := by
      rw [List.getD, List.getD, List.getElem?_take, if_pos (by omega)]
    rw [lesTo, lesTo, lesTo_take k (by omega), e]

theorem take_len {infos : List Inf} {m : Nat} (h : m ≤ infos.length) : (infos.take m).length = m := by rw [List.length_take]; omega

/-- One round of the look for an osd of the rank. -/
theorem used_step {U V : List Bool} {osds l : List Int} {m q t : Nat} {k : Int} (hp : List.Perm (uv U osds m) (l.drop q)) (hq : q < l.length) (hk : k = l.getD q 0) (ht : t < m) (hU : U.length = m) (h1 : U.getD t false = false) (h2 : osds.getD t 0 = k) (hV : V = U.set t true) :
    List.Perm (uv V osds m) (l.drop (q + 1)) := by
  have e : l.drop q = k :: l.drop (q + 1) := by
    rw [List.drop_eq_getElem_cons hq, hk, List.getD, List.getElem?_eq_getElem hq]; rfl
  have h3 := uv_use (osds := osds) h1 (by omega) m ht
  rw [h2, ← hV] at h3
  rw [e] at hp
  exact (h3.symm.trans hp).cons_inv
theorem used_some {U : List Bool} {osds l : List Int} {m q : Nat} {k : Int} (hp : List.Perm (uv U osds m) (l.drop q)) (hq : q < l.length) (hk : k = l.getD q 0) : ∃ t, t < m ∧ U.getD t false = false ∧ osds.getD t 0 = k := by
  have e : l.drop q = k :: l.drop (q + 1) := by
    rw [List.drop_eq_getElem_cons hq, hk, List.getD, List.getElem?_eq_getElem hq]; rfl
  exact uv_mem (hp.mem_iff.2 (by rw [e]; simp))

theorem first_good {osds : List Int} {infos : List Inf} {self : Int} {m : Nat} (hm : m = minL osds infos) (h0 : m ≠ 0) : gTo osds infos ((rankedF osds infos self).getD 0 0) (lesTo infos m) m m = true := by
  have H := rank_order osds infos self (fun _ => True)
  obtain ⟨s, hs⟩ : ∃ s, s = soFar (ltI osds infos self) m := ⟨_, rfl⟩
  have hl : s.length = m := by rw [hs]; exact soFar_len m
  have hw := soFar_within (lt := ltI osds infos self) m 0 (by rw [soFar_len]; omega)
  rw [← hs] at hw
  obtain ⟨a, ha⟩ : ∃ a : Nat, s.getD 0 0 = (a : Int) := ⟨(s.getD 0 0).toNat, by omega⟩
  have hr := isort_rises 0 (ltI osds infos self) H (upTo m) (fun _ _ => trivial)
  have hmem : ∀ t : Nat, t < m → ltI osds infos self (t : Int) (a : Int) = false := fun t ht => by
    have h1 : (t : Int) ∈ upTo m := by
      rw [← upTo_at m t ht, List.getD, List.getElem?_eq_getElem (by rw [upTo_len]; exact ht)]
      exact List.getElem_mem _
    have h2 : (t : Int) ∈ s := by rw [hs]; exact (mem_isort _ _ _).2 h1
    obtain ⟨j, hj, he⟩ := List.getElem_of_mem h2
    have he2 : s.getD j 0 = (t : Int) := by rw [List.getD, List.getElem?_eq_getElem hj]; exact he
    rw [← he2, ← ha]
    rcases Nat.eq_zero_or_pos j with h3 | h3
    · subst h3
      cases hc : ltI osds infos self (s.getD 0 0) (s.getD 0 0) with
      | false => rfl
      | true => have := H.as _ _ trivial trivial hc; rw [hc] at this; cases this
    · have := hr 0 j h3 (by unfold soFar at hs; rw [← hs]; exact hj)
      unfold soFar at hs
      rw [← hs] at this
      exact this
  have htop : ∀ k, k < m → infF (infos.getD k dI) (infos.getD a dI) ≤ 0 := fun k hk => by
    have h1 := hmem k hk
    have h2 : ¬ ltI osds infos self (k : Int) (a : Int) = true := by rw [h1]; simp
    rw [ltI_is, Int.toNat_natCast, Int.toNat_natCast] at h2
    have h3 := infF_anti (infos.getD k dI) (infos.getD a dI)
    omega
  have hles : ∀ k, k < m → (infos.getD k dI).les ≤ (infos.getD a dI).les := fun k hk => by
    have h1 := htop k hk
    have h2 := infF_is (infos.getD k dI) (infos.getD a dI)
    unfold infLt infEq at h2
    omega
  refine gTo_one (a := a) (topTo_all m htop) ?_ ((lesTo_max m hles).1 (by omega)).symm m (by omega)
  have e : rankedF osds infos self = s.map fun k => osds.getD k.toNat 0 := by
    unfold rankedF
    rw [← hm, orderF_soFar, ← hs]
    conv => lhs; rw [← hl]
    exact mapTo_map _ _
  have h1 : s[0]? = some (a : Int) := by
    rw [List.getElem?_eq_getElem (by omega)]
    rw [← ha, List.getD, List.getElem?_eq_getElem (by omega)]
    rfl
  have h2 : (s.map fun k => osds.getD k.toNat 0).getD 0 0 = osds.getD a 0 := by
    rw [List.getD, List.getElem?_map, h1]
    rfl
  rw [e, h2]

end Go.Proofs.Ythaokdobgmbeeaa
