/-
  The steps of slices.SortStableFunc, in plain Lean: what a swap of ranges, a rotation, a merge in place make of a list.
-/
import Derived.Test.YtcegkgbceogflaaPmerge
set_option linter.unusedVariables false
set_option linter.unusedSectionVars false
namespace Go.Proofs.Ytcegkgbceogflaa
open Go Sx

section
variable {α : Type} (d : α) (lt : α → α → Bool)

theorem getD_setG (l : List α) (i j : Nat) (v : α) : (l.set i v).getD j d = if i = j ∧ j < l.length then v else l.getD j d := by
  simp only [List.getD, List.getElem?_set]
  by_cases hij : i = j
  · subst hij
    by_cases hl : i < l.length
    · simp [hl]
    · simp [hl]
  · simp [hij]

/-- n elements from place a on, and n from place b on, have changed places. -/
def SwP (L : List α) (a b n : Nat) (L' : List α) : Prop := L'.length = L.length ∧ ∀ k, L'.getD k d = if a ≤ k ∧ k < a + n then L.getD (k - a + b) d else if b ≤ k ∧ k < b + n then L.getD (k - b + a) d else L.getD k d
/-- What stood from m to e stands ahead of what stood from s to m. -/
def RotP (L : List α) (s m e : Nat) (L' : List α) : Prop := L'.length = L.length ∧ ∀ k, L'.getD k d = if s ≤ k ∧ k < s + (e - m) then L.getD (k - s + m) d else if s + (e - m) ≤ k ∧ k < e then L.getD (k - (s + (e - m)) + s) d else L.getD k d
/-- What stood from a to m and from m to b is merged. -/
def SymP (L : List α) (a m b : Nat) (L' : List α) : Prop := L'.length = L.length ∧ (∀ k, k < a ∨ b ≤ k → L'.getD k d = L.getD k d) ∧ seg d L' a (b - a) = mergeL lt (seg d L a (m - a)) (seg d L m (b - m))
def AllS (S : α → Prop) (L : List α) : Prop := ∀ k, k < L.length → S (L.getD k d)
def RisesS (L : List α) (s e : Nat) : Prop := ∀ i j, s ≤ i → i < j → j < e → lt (L.getD j d) (L.getD i d) = false

theorem SwP.zero (L : List α) (a b : Nat) : SwP d L a b 0 L := ⟨rfl, fun k => by rw [if_neg (by omega), if_neg (by omega)]⟩
theorem SwP.step {L L' : List α} {a b n : Nat} (h : SwP d L a b n L') (hab : a + (n + 1) ≤ b) (hb : b + (n + 1) ≤ L.length) :
    SwP d L a b (n + 1) ((L'.set (a + n) (L'.getD (b + n) d)).set (b + n) (L'.getD (a + n) d)) := by
  refine ⟨by simp [h.1], fun k => ?_⟩
  have ha := h.2 (a + n)
  have hb2 := h.2 (b + n)
  rw [if_neg (by omega), if_neg (by omega)] at ha
  rw [if_neg (by omega), if_neg (by omega)] at hb2
  rw [getD_setG, getD_setG, List.length_set, h.1, ha, hb2, h.2 k]
  by_cases h1 : b + n = k
  · subst h1
    rw [if_pos ⟨rfl, by omega⟩, if_neg (by omega), if_pos (by omega)]
    congr 1; omega
  · rw [if_neg (fun hc => h1 hc.1)]
    by_cases h2 : a + n = k
    · subst h2
      rw [if_pos ⟨rfl, by omega⟩, if_pos (by omega)]
      congr 1; omega
    · rw [if_neg (fun hc => h2 hc.1)]
      (repeat' split) <;> first | rfl | (exfalso; omega)

theorem RotP.triv {L : List α} {s m e : Nat} (h : s = m ∨ m = e) (hsm : s ≤ m) (hme : m ≤ e) : RotP d L s m e L := by
  refine ⟨rfl, fun k => ?_⟩
  (repeat' split) <;> first | rfl | (congr 1; omega)
theorem SymP.triv {L : List α} {a m b : Nat} (h : a = m ∨ m = b) (ham : a ≤ m) (hmb : m ≤ b) : SymP d lt L a m b L := by
  refine ⟨rfl, fun _ _ => rfl, ?_⟩
  rcases h with rfl | rfl
  · rw [Nat.sub_self, seg_zero, nil_mergeL]
  · rw [Nat.sub_self, seg_zero, mergeL_nil]

/-- Target T is what a rotation of L makes: i elements ahead of m, j from m on. -/
theorem RotP.left {L L' T : List α} {m i j : Nat} (hij : j < i) (hi : i ≤ m) (hsw : SwP d L (m - i) m j L') (h : RotP d L' (m - (i - j)) m (m + j) T) : RotP d L (m - i) m (m + j) T := by
  refine ⟨h.1.trans hsw.1, fun k => ?_⟩
  rw [h.2 k]
  (repeat' split) <;> (rw [hsw.2]; (repeat' split) <;> first | (congr 1; omega) | (exfalso; omega) | rfl)
theorem RotP.right {L L' T : List α} {m i j : Nat} (hij : i < j) (hi : i ≤ m) (hsw : SwP d L (m - i) (m + j - i) i L') (h : RotP d L' (m - i) m (m + (j - i)) T) : RotP d L (m - i) m (m + j) T := by
  refine ⟨h.1.trans hsw.1, fun k => ?_⟩
  rw [h.2 k]
  (repeat' split) <;> (rw [hsw.2]; (repeat' split) <;> first | (congr 1; omega) | (exfalso; omega) | rfl)
theorem RotP.last {L L' : List α} {m i : Nat} (hi : i ≤ m) (hsw : SwP d L (m - i) m i L') : RotP d L (m - i) m (m + i) L' := by
  refine ⟨hsw.1, fun k => ?_⟩
  rw [hsw.2]
  (repeat' split) <;> first | (congr 1; omega) | (exfalso; omega) | rfl

theorem SwP.all {S : α → Prop} {L L' : List α} {a b n : Nat} (hS : AllS d S L) (h : SwP d L a b n L') (hb : b + n ≤ L.length) (hab : a + n ≤ b) : AllS d S L' := by
  intro k hk
  rw [h.1] at hk
  rw [h.2 k]
  (repeat' split) <;> exact hS _ (by omega)
theorem RotP.all {S : α → Prop} {L L' : List α} {s m e : Nat} (hS : AllS d S L) (h : RotP d L s m e L') (hsm : s ≤ m) (hme : m ≤ e) (he : e ≤ L.length) : AllS d S L' := by
  intro k hk
  rw [h.1] at hk
  rw [h.2 k]
  (repeat' split) <;> exact hS _ (by omega)
theorem SymP.all {S : α → Prop} {L L' : List α} {a m b : Nat} (hS : AllS d S L) (h : SymP d lt L a m b L') (ham : a ≤ m) (hmb : m ≤ b) (hb : b ≤ L.length) : AllS d S L' := by
  intro k hk
  rw [h.1] at hk
  by_cases hin : k < a ∨ b ≤ k
  · rw [h.2.1 k hin]; exact hS k hk
  · have hmem : L'.getD k d ∈ seg d L' a (b - a) := (mem_seg d).2 ⟨k - a, by omega, by congr 1; omega⟩
    rw [h.2.2] at hmem
    rcases mem_mergeL lt _ _ hmem with h1 | h1
    · obtain ⟨i, hi, he⟩ := (mem_seg d).1 h1
      rw [he]; exact hS _ (by omega)
    · obtain ⟨i, hi, he⟩ := (mem_seg d).1 h1
      rw [he]; exact hS _ (by omega)

theorem RotP.rises1 {L L' : List α} {a s m e : Nat} (h : RotP d L s m e L') (hr : RisesS d lt L a m) (hsm : s ≤ m) : RisesS d lt L' a s := by
  intro i j h1 h2 h3
  rw [h.2 i, h.2 j, if_neg (by omega), if_neg (by omega), if_neg (by omega), if_neg (by omega)]
  exact hr i j h1 h2 (by omega)
theorem RotP.rises2 {L L' : List α} {s m e b : Nat} (h : RotP d L s m e L') (hr : RisesS d lt L m b) (heb : e ≤ b) : RisesS d lt L' s (s + (e - m)) := by
  intro i j h1 h2 h3
  rw [h.2 i, h.2 j, if_pos (by omega), if_pos (by omega)]
  exact hr _ _ (by omega) (by omega) (by omega)
theorem RotP.rises3 {L L' : List α} {a s m e : Nat} (h : RotP d L s m e L') (hr : RisesS d lt L a m) (has : a ≤ s) (hme : m ≤ e) (hsm : s ≤ m) : RisesS d lt L' (s + (e - m)) e := by
  intro i j h1 h2 h3
  rw [h.2 i, h.2 j, if_neg (by omega), if_pos (by omega), if_neg (by omega), if_pos (by omega)]
  exact hr _ _ (by omega) (by omega) (by omega)
theorem RotP.rises4 {L L' : List α} {s m e b : Nat} (h : RotP d L s m e L') (hr : RisesS d lt L m b) (hme : m ≤ e) (hsm : s ≤ m) : RisesS d lt L' e b := by
  intro i j h1 h2 h3
  rw [h.2 i, h.2 j, if_neg (by omega), if_neg (by omega), if_neg (by omega), if_neg (by omega)]
  exact hr _ _ (by omega) h2 (by omega)
theorem SymP.rises {L L' : List α} {a m b s e : Nat} (h : SymP d lt L a m b L') (hr : RisesS d lt L s e) (hbs : b ≤ s) : RisesS d lt L' s e := by
  intro i j h1 h2 h3
  rw [h.2.1 i (by omega), h.2.1 j (by omega)]
  exact hr i j h1 h2 h3

theorem sym_glue {L L1 L2 L3 : List α} {a m b s e : Nat} (h1 : a ≤ s) (h2 : s ≤ m) (h3 : m ≤ e) (h4 : e ≤ b)
    (hY : ∀ i j, s ≤ i → i < m → m ≤ j → j < e → lt (L.getD j d) (L.getD i d) = true) (hX : ∀ i j, a ≤ i → i < s → e ≤ j → j < b → lt (L.getD j d) (L.getD i d) = false)
    (r : RotP d L s m e L1) (p : SymP d lt L1 a s (s + (e - m)) L2) (q : SymP d lt L2 (s + (e - m)) e b L3) : SymP d lt L a m b L3 := by
  refine ⟨q.1.trans (p.1.trans r.1), fun k hk => ?_, ?_⟩
  · rw [q.2.1 k (by omega), p.2.1 k (by omega), r.2 k, if_neg (by omega), if_neg (by omega)]
  · have e1 : seg d L3 a (b - a) = seg d L3 a (s + (e - m) - a) ++ seg d L3 (s + (e - m)) (b - (s + (e - m))) := by
      rw [show b - a = (s + (e - m) - a) + (b - (s + (e - m))) by omega, seg_add, show a + (s + (e - m) - a) = s + (e - m) by omega]
    have e2 : seg d L3 a (s + (e - m) - a) = seg d L2 a (s + (e - m) - a) := seg_congr d fun i hi => q.2.1 _ (by omega)
    have f1 : seg d L1 a (s - a) = seg d L a (s - a) := seg_congr d fun i hi => by rw [r.2, if_neg (by omega), if_neg (by omega)]
    have f2 : seg d L1 s (s + (e - m) - s) = seg d L m (e - m) := by
      rw [show s + (e - m) - s = e - m by omega]
      exact seg_congr d fun i hi => by rw [r.2, if_pos (by omega)]; congr 1; omega
    have f3 : seg d L2 (s + (e - m)) (e - (s + (e - m))) = seg d L s (m - s) := by
      rw [show e - (s + (e - m)) = m - s by omega]
      exact seg_congr d fun i hi => by rw [p.2.1 _ (by omega), r.2, if_neg (by omega), if_pos (by omega)]; congr 1; omega
    have f4 : seg d L2 e (b - e) = seg d L e (b - e) := seg_congr d fun i hi => by rw [p.2.1 _ (by omega), r.2, if_neg (by omega), if_neg (by omega)]
    rw [e1, e2, p.2.2, q.2.2, f1, f2, f3, f4]
    rw [show m - a = (s - a) + (m - s) by omega, seg_add, show a + (s - a) = s by omega, show b - m = (e - m) + (b - e) by omega, seg_add, show m + (e - m) = e by omega]
    refine (mergeL_split lt _ _ _ _ (fun y hy x hx => ?_) (fun x hx y hy => ?_)).symm
    · obtain ⟨j, hj, rfl⟩ := (mem_seg d).1 hy
      obtain ⟨i, hi, rfl⟩ := (mem_seg d).1 hx
      exact hY _ _ (by omega) (by omega) (by omega) (by omega)
    · obtain ⟨i, hi, rfl⟩ := (mem_seg d).1 hx
      obtain ⟨j, hj, rfl⟩ := (mem_seg d).1 hy
      exact hX _ _ (by omega) (by omega) (by omega) (by omega)

/-- 'less' and 'not greater' chained. -/
theorem Order.lt_le {S : α → Prop} (H : Order lt S) {x y z : α} (hx : S x) (hy : S y) (hz : S z) (h1 : lt y x = false) (h2 : lt y z = true) : lt x z = true := by
  cases h : lt x z with
  | true => rfl
  | false =>
    have := H.tr z x y hz hx hy h h1
    rw [h2] at this
    cases this
theorem Order.le_lt {S : α → Prop} (H : Order lt S) {x y z : α} (hx : S x) (hy : S y) (hz : S z) (h1 : lt x y = true) (h2 : lt z y = false) : lt x z = true := by
  cases h : lt x z with
  | true => rfl
  | false =>
    have := H.tr y z x hy hz hx h2 h
    rw [h1] at this
    cases this

/-- What the search for the cut found, said of all. -/
theorem cut_facts {S : α → Prop} (H : Order lt S) {L : List α} {a m b s e : Nat} (hS : AllS d S L) (hb : b ≤ L.length) (h1 : a ≤ s) (h2 : s ≤ m) (h3 : m ≤ e) (h4 : e ≤ b)
    (ra : RisesS d lt L a m) (rb : RisesS d lt L m b)
    (k1 : s = m ∨ e = m ∨ lt (L.getD (e - 1) d) (L.getD s d) = true) (k2 : s = a ∨ e = b ∨ lt (L.getD e d) (L.getD (s - 1) d) = false) :
    (∀ i j, s ≤ i → i < m → m ≤ j → j < e → lt (L.getD j d) (L.getD i d) = true) ∧ (∀ i j, a ≤ i → i < s → e ≤ j → j < b → lt (L.getD j d) (L.getD i d) = false) := by
  have le : ∀ (s0 e0 : Nat), RisesS d lt L s0 e0 → e0 ≤ L.length → (∀ x y, S x → S y → lt x y = true → lt y x = false) → ∀ i j, s0 ≤ i → i ≤ j → j < e0 → lt (L.getD j d) (L.getD i d) = false := fun s0 e0 r he as i j g1 g2 g3 => by
    rcases Nat.lt_or_eq_of_le g2 with g | rfl
    · exact r i j g1 g g3
    · cases h : lt (L.getD i d) (L.getD i d) with
      | false => rfl
      | true => have := as _ _ (hS i (by omega)) (hS i (by omega)) h; rw [h] at this; cases this
  have la := le a m ra (by omega) H.as
  have lb := le m b rb hb H.as
  refine ⟨fun i j g1 g2 g3 g4 => ?_, fun i j g1 g2 g3 g4 => ?_⟩
  · rcases k1 with k | k | k
    · omega
    · omega
    · have q1 := lb j (e - 1) g3 (by omega) (by omega)
      have q2 := la s i h1 g1 g2
      have q3 := Order.lt_le lt H (hS j (by omega)) (hS (e - 1) (by omega)) (hS s (by omega)) q1 k
      exact Order.le_lt lt H (hS j (by omega)) (hS s (by omega)) (hS i (by omega)) q3 q2
  · rcases k2 with k | k | k
    · omega
    · omega
    · have q1 := lb e j h3 g3 g4
      have q2 := la i (s - 1) g1 (by omega) (by omega)
      exact H.tr _ _ _ (hS i (by omega)) (hS e (by omega)) (hS j (by omega)) (H.tr _ _ _ (hS i (by omega)) (hS (s - 1) (by omega)) (hS e (by omega)) q2 k) q1

/-- One element goes up to place i - 1. -/
def UpP (L : List α) (a k : Nat) (L' : List α) : Prop := L'.length = L.length ∧ ∀ t, L'.getD t d = if a ≤ t ∧ t < k then L.getD (t + 1) d else if t = k then L.getD a d else L.getD t d
theorem UpP.zero (L : List α) (a : Nat) : UpP d L a a L := ⟨rfl, fun t => by rw [if_neg (by omega)]; split <;> simp_all⟩
theorem UpP.step {L L' : List α} {a k : Nat} (h : UpP d L a k L') (hk : k + 1 < L.length) (hak : a ≤ k) : UpP d L a (k + 1) ((L'.set k (L'.getD (k + 1) d)).set (k + 1) (L'.getD k d)) := by
  refine ⟨by simp [h.1], fun t => ?_⟩
  have e1 := h.2 k
  have e2 := h.2 (k + 1)
  rw [if_neg (by omega), if_pos rfl] at e1
  rw [if_neg (by omega), if_neg (by omega)] at e2
  rw [getD_setG, getD_setG, List.length_set, h.1, e1, e2, h.2 t]
  by_cases h1 : k + 1 = t
  · subst h1
    rw [if_pos ⟨rfl, hk⟩, if_neg (by omega), if_pos rfl]
  · rw [if_neg (fun hc => h1 hc.1)]
    by_cases h2 : k = t
    · subst h2
      rw [if_pos ⟨rfl, by omega⟩, if_pos (by omega)]
    · rw [if_neg (fun hc => h2 hc.1)]
      (repeat' split) <;> first | rfl | (exfalso; omega)
theorem UpP.sym {S : α → Prop} {L L' : List α} {a i b : Nat} (h : UpP d L a (i - 1) L') (h1 : a + 1 ≤ i) (h2 : i ≤ b)
    (hY : ∀ j, a + 1 ≤ j → j < i → lt (L.getD j d) (L.getD a d) = true) (hX : ∀ j, i ≤ j → j < b → lt (L.getD j d) (L.getD a d) = false) : SymP d lt L a (a + 1) b L' := by
  refine ⟨h.1, fun k hk => by rw [h.2, if_neg (by omega), if_neg (by omega)], ?_⟩
  have f1 : seg d L' a (b - a) = seg d L (a + 1) (i - (a + 1)) ++ ([L.getD a d] ++ seg d L i (b - i)) := by
    rw [show b - a = (i - (a + 1)) + (1 + (b - i)) by omega, seg_add, seg_add, show a + (i - (a + 1)) = i - 1 by omega, seg_one, show i - 1 + 1 = i by omega]
    congr 1
    · exact seg_congr d fun t ht => by rw [h.2, if_pos (by omega)]; congr 1; omega
    · congr 1
      · rw [h.2, if_neg (by omega), if_pos rfl]
      · exact seg_congr d fun t ht => by rw [h.2, if_neg (by omega), if_neg (by omega)]
  rw [f1, show a + 1 - a = 1 by omega, seg_one, show b - (a + 1) = (i - (a + 1)) + (b - i) by omega, seg_add, show a + 1 + (i - (a + 1)) = i by omega]
  have g := mergeL_split lt [] (seg d L (a + 1) (i - (a + 1))) [L.getD a d] (seg d L i (b - i)) (fun y hy x hx => by
    obtain ⟨j, hj, rfl⟩ := (mem_seg d).1 hy
    rw [List.mem_singleton.1 hx]
    exact hY _ (by omega) (by omega)) (fun x hx => by cases hx)
  rw [List.nil_append, nil_mergeL] at g
  rw [g]
  congr 1
  have g2 := mergeL_split lt [L.getD a d] [] [] (seg d L i (b - i)) (fun y hy => by cases hy) (fun x hx y hy => by
    obtain ⟨j, hj, rfl⟩ := (mem_seg d).1 hy
    rw [List.mem_singleton.1 hx]
    exact hX _ (by omega) (by omega))
  rw [List.nil_append, List.append_nil, mergeL_nil, nil_mergeL] at g2
  exact g2.symm

/-- One element goes down to place i. -/
def DownP (L : List α) (m k : Nat) (L' : List α) : Prop := L'.length = L.length ∧ ∀ t, L'.getD t d = if k < t ∧ t ≤ m then L.getD (t - 1) d else if t = k then L.getD m d else L.getD t d
theorem DownP.zero (L : List α) (m : Nat) : DownP d L m m L := ⟨rfl, fun t => by rw [if_neg (by omega)]; split <;> simp_all⟩
theorem DownP.step {L L' : List α} {m k : Nat} (h : DownP d L m (k + 1) L') (hk : k + 1 ≤ m) (hm : m < L.length) : DownP d L m k ((L'.set (k + 1) (L'.getD k d)).set k (L'.getD (k + 1) d)) := by
  refine ⟨by simp [h.1], fun t => ?_⟩
  have e1 := h.2 (k + 1)
  have e2 := h.2 k
  rw [if_neg (by omega), if_pos rfl] at e1
  rw [if_neg (by omega), if_neg (by omega)] at e2
  rw [getD_setG, getD_setG, List.length_set, h.1, e1, e2, h.2 t]
  by_cases h1 : k = t
  · subst h1
    rw [if_pos ⟨rfl, by omega⟩, if_neg (by omega), if_pos rfl]
  · rw [if_neg (fun hc => h1 hc.1)]
    by_cases h2 : k + 1 = t
    · subst h2
      rw [if_pos ⟨rfl, by omega⟩, if_pos (by omega)]
      congr 1
    · rw [if_neg (fun hc => h2 hc.1)]
      (repeat' split) <;> first | rfl | (exfalso; omega)
theorem DownP.step' {L L' : List α} {m k : Nat} (h : DownP d L m k L') (hk : 1 ≤ k) (hkm : k ≤ m) (hm : m < L.length) : DownP d L m (k - 1) ((L'.set k (L'.getD (k - 1) d)).set (k - 1) (L'.getD k d)) := by
  have e : k - 1 + 1 = k := by omega
  have := DownP.step d (k := k - 1) (by rw [e]; exact h) (by omega) hm
  rwa [e] at this
theorem not_true_f {b : Bool} (h : (!b) = true) : b = false := by simpa using h
theorem not_false_t {b : Bool} (h : (!b) = false) : b = true := by simpa using h
theorem DownP.sym {L L' : List α} {a i m : Nat} (h : DownP d L m i L') (h1 : a ≤ i) (h2 : i ≤ m)
    (hX : ∀ j, a ≤ j → j < i → lt (L.getD m d) (L.getD j d) = false) (hY : ∀ j, i ≤ j → j < m → lt (L.getD m d) (L.getD j d) = true) : SymP d lt L a m (m + 1) L' := by
  refine ⟨h.1, fun k hk => by rw [h.2, if_neg (by omega), if_neg (by omega)], ?_⟩
  have f1 : seg d L' a (m + 1 - a) = seg d L a (i - a) ++ ([L.getD m d] ++ seg d L i (m - i)) := by
    rw [show m + 1 - a = (i - a) + (1 + (m - i)) by omega, seg_add, seg_add, show a + (i - a) = i by omega, seg_one]
    congr 1
    · exact seg_congr d fun t ht => by rw [h.2, if_neg (by omega), if_neg (by omega)]
    · congr 1
      · rw [h.2, if_neg (by omega), if_pos rfl]
      · exact seg_congr d fun t ht => by rw [h.2, if_pos (by omega)]; congr 1; omega
  rw [f1, show m + 1 - m = 1 by omega, seg_one, show m - a = (i - a) + (m - i) by omega, seg_add, show a + (i - a) = i by omega]
  have g := mergeL_split lt (seg d L a (i - a)) [L.getD m d] (seg d L i (m - i)) [] (fun y hy x hx => by
    obtain ⟨j, hj, rfl⟩ := (mem_seg d).1 hx
    rw [List.mem_singleton.1 hy]
    exact hY _ (by omega) (by omega)) (fun x hx y hy => by cases hy)
  rw [List.append_nil, mergeL_nil] at g
  rw [g]
  rw [← List.append_assoc]
  congr 1
  have g2 := mergeL_split lt (seg d L a (i - a)) [] [] [L.getD m d] (fun y hy => by cases hy) (fun x hx y hy => by
    obtain ⟨j, hj, rfl⟩ := (mem_seg d).1 hx
    rw [List.mem_singleton.1 hy]
    exact hX _ (by omega) (by omega))
  rw [List.nil_append, List.append_nil, mergeL_nil, nil_mergeL] at g2
  exact g2.symm

end
end Go.Proofs.Ytcegkgbceogflaa
