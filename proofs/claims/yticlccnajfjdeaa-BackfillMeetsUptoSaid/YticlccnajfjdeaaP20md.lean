/-
  CHAPTER 20, BackfillMeets: plain facts: the sort of items by name, where no two have one name.
-/
import Derived.Test.YticlccnajfjdeaaP20mc
set_option linter.unusedVariables false
set_option linter.unusedSimpArgs false
set_option maxRecDepth 100000
namespace Go.Proofs.Yticlccnajfjdeaa
open Go Go.RowKit Sx

abbrev Up (L : List Itm) : Prop := L.Pairwise fun a b => ltI b a = false
theorem insR_split (x : Itm) : ∀ (A B : List Itm), (∀ z ∈ A, ltI x z = false) → (∀ z ∈ B, ltI x z = true) → insR ltI x (A ++ B) = A ++ x :: B
  | [], [], _, _ => rfl
  | [], b :: B, _, h => by rw [List.nil_append, insR, if_pos (h b (by simp))]; rfl
  | a :: A, B, h1, h2 => by
    rw [List.cons_append, insR, if_neg (by rw [h1 a (by simp)]; simp), insR_split x A B (fun z hz => h1 z (by simp [hz])) h2]
    rfl

/-- An element finds its place in a list that rises. -/
theorem up_split (x : Itm) : ∀ (L : List Itm), Up L → ∃ A B, L = A ++ B ∧ (∀ z ∈ A, ltI x z = false) ∧ (∀ z ∈ B, ltI x z = true)
  | [], _ => ⟨[], [], rfl, by simp, by simp⟩
  | a :: L, h => by
    cases hx : ltI x a with
    | true =>
      refine ⟨[], a :: L, rfl, by simp, fun z hz => ?_⟩
      rcases List.mem_cons.1 hz with rfl | hz
      · exact hx
      · exact le_lt hx ((List.pairwise_cons.1 h).1 z hz)
    | false =>
      obtain ⟨A, B, rfl, h1, h2⟩ := up_split x L (List.pairwise_cons.1 h).2
      refine ⟨a :: A, B, rfl, fun z hz => ?_, h2⟩
      rcases List.mem_cons.1 hz with rfl | hz
      · exact hx
      · exact h1 z hz

theorem insR_up (x : Itm) (L : List Itm) (h : Up L) : Up (insR ltI x L) := by
  obtain ⟨A, B, rfl, h1, h2⟩ := up_split x L h
  rw [insR_split x A B h1 h2]
  have hp := List.pairwise_append.1 h
  refine List.pairwise_append.2 ⟨hp.1, List.pairwise_cons.2 ⟨fun z hz => ordI.as _ _ trivial trivial (h2 z hz), hp.2.1⟩, fun a ha b hb => ?_⟩
  rcases List.mem_cons.1 hb with rfl | hb
  · exact h1 a ha
  · exact hp.2.2 a ha b hb
theorem isort_up (l : List Itm) : Up (isort ltI l) := by
  have : ∀ (l acc : List Itm), Up acc → Up (l.foldl (fun acc y => insR ltI y acc) acc) := by
    intro l
    induction l with
    | nil => intro acc h; exact h
    | cons x l ih => intro acc h; exact ih _ (insR_up x acc h)
  exact this l [] List.Pairwise.nil

theorem insR_filter (p : Itm → Bool) (x : Itm) (L : List Itm) (h : Up L) : (insR ltI x L).filter p = if p x then insR ltI x (L.filter p) else L.filter p := by
  obtain ⟨A, B, rfl, h1, h2⟩ := up_split x L h
  rw [insR_split x A B h1 h2, List.filter_append, List.filter_cons, List.filter_append]
  split
  · rw [insR_split x _ _ (fun z hz => h1 z (List.mem_filter.1 hz).1) (fun z hz => h2 z (List.mem_filter.1 hz).1)]
  · rfl
theorem isort_filter (p : Itm → Bool) (l : List Itm) : (isort ltI l).filter p = isort ltI (l.filter p) := by
  have : ∀ (l acc : List Itm), Up acc → (l.foldl (fun acc y => insR ltI y acc) acc).filter p = (l.filter p).foldl (fun acc y => insR ltI y acc) (acc.filter p) := by
    intro l
    induction l with
    | nil => intro acc h; rfl
    | cons x l ih =>
      intro acc h
      rw [List.foldl_cons, ih _ (insR_up x acc h), insR_filter p x acc h, List.filter_cons]
      split <;> rfl
  exact this l [] List.Pairwise.nil
theorem isort_apart (A B : List Itm) (h : ∀ a ∈ A, ∀ b ∈ B, ltI b a = false) : isort ltI (A ++ B) = isort ltI A ++ isort ltI B := by
  rw [isort_append ltI ordI A (fun _ _ => trivial) _ B rfl (fun _ _ => trivial)]
  have := mergeL_split ltI (isort ltI A) [] [] (isort ltI B) (fun y hy => by cases hy) (fun x hx y hy => h x ((mem_isort ltI x A).1 hx) y ((mem_isort ltI y B).1 hy))
  rwa [List.append_nil, List.nil_append, mergeL_nil, nil_mergeL] at this

/-! ### The reference's sort -/
abbrev Apart (L : List Itm) : Prop := L.Pairwise fun a b => a.Name ≠ b.Name
theorem insR_apart (x : Itm) (L : List Itm) (hu : Up L) (h : Apart L) (hx : ∀ z ∈ L, x.Name ≠ z.Name) : Apart (insR ltI x L) := by
  obtain ⟨A, B, rfl, h1, h2⟩ := up_split x L hu
  rw [insR_split x A B h1 h2]
  have hp := List.pairwise_append.1 h
  refine List.pairwise_append.2 ⟨hp.1, List.pairwise_cons.2 ⟨fun z hz => hx z (by simp [hz]), hp.2.1⟩, fun a ha b hb => ?_⟩
  rcases List.mem_cons.1 hb with rfl | hb
  · exact fun e => hx a (by simp [ha]) e.symm
  · exact hp.2.2 a ha b hb
theorem isort_apart_names : ∀ (n : Nat) (l : List Itm), l.length = n → Apart l → Apart (isort ltI l)
  | 0, l, h, _ => by rw [List.length_eq_zero_iff.1 h]; exact List.Pairwise.nil
  | n + 1, W, h, ha => by
    obtain ⟨l, y, rfl⟩ := (List.eq_nil_or_concat W).resolve_left (fun e => by rw [e] at h; cases h)
    rw [List.concat_eq_append] at *
    have hp := List.pairwise_append.1 ha
    rw [isort_snoc]
    exact insR_apart y _ (isort_up l) (isort_apart_names n l (by simpa using h) hp.1) (fun z hz => fun e => hp.2.2 z ((mem_isort ltI z l).1 hz) y (by simp) e.symm)

theorem up_strict {L : List Itm} (hu : Up L) (ha : Apart L) : L.Pairwise fun a b => ltI a b = true := by
  refine (hu.and ha).imp ?_
  rintro a b ⟨h1, h2⟩
  rw [ltI_is] at *
  exact lex_total h1 (fun e => h2 (str_tl_inj (by rw [ByteArray.toList_eq, ByteArray.toList_eq]; exact e.symm)))
theorem strict_eq : ∀ (A B : List Itm), (A.Pairwise fun a b => ltI a b = true) → (B.Pairwise fun a b => ltI a b = true) → (∀ z, z ∈ A ↔ z ∈ B) → A = B
  | [], [], _, _, _ => rfl
  | [], b :: B, _, _, h => by have := (h b).2 (by simp); cases this
  | a :: A, [], _, _, h => by have := (h a).1 (by simp); cases this
  | a :: A, b :: B, hA, hB, h => by
    have pA := List.pairwise_cons.1 hA
    have pB := List.pairwise_cons.1 hB
    have irr : ∀ x y : Itm, ltI x y = true → ltI y x = true → False := fun x y h1 h2 => by
      rw [ordI.as _ _ trivial trivial h1] at h2; cases h2
    have hab : a = b := by
      rcases List.mem_cons.1 ((h a).1 (by simp)) with h1 | h1
      · exact h1
      · rcases List.mem_cons.1 ((h b).2 (by simp)) with h2 | h2
        · exact h2.symm
        · exact (irr _ _ (pB.1 a h1) (pA.1 b h2)).elim
    subst hab
    have self : ltI a a = true → False := fun h => irr _ _ h h
    rw [strict_eq A B pA.2 pB.2 (fun z => ⟨fun hz => ?_, fun hz => ?_⟩)]
    · rcases List.mem_cons.1 ((h z).1 (by simp [hz])) with rfl | h1
      · exact (self (pA.1 _ hz)).elim
      · exact h1
    · rcases List.mem_cons.1 ((h z).2 (by simp [hz])) with rfl | h1
      · exact (self (pB.1 _ hz)).elim
      · exact h1
theorem isort_strict (L : List Itm) (h : L.Pairwise fun a b => ltI a b = true) (ha : Apart L) : isort ltI L = L :=
  strict_eq _ _ (up_strict (isort_up L) (isort_apart_names _ L rfl ha)) h (fun z => by rw [mem_isort])

end Go.Proofs.Yticlccnajfjdeaa
