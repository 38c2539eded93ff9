/-
  CHAPTER 20, BackfillWhole: plain facts: what Apply makes of items.
-/
import Derived.Test.YticlccnajfjdeaaP20rf
set_option linter.unusedVariables false
set_option linter.unusedSimpArgs false
set_option maxRecDepth 100000
namespace Go.Proofs.Yticlccnajfjdeaa
open Go Go.RowKit Sx

/-! ### Apply -/
def sameN (a b : Itm) : Bool := a.Name.toList == b.Name.toList
theorem sameN_iff {a b : Itm} : sameN a b = true ↔ a.Name = b.Name := str_tl _ _
/-- An item takes the place of the first one of its name, or stands behind all. -/
def addF (l : List Itm) (x : Itm) : List Itm :=
  match l with
  | [] => [x]
  | y :: l => if sameN y x = true then x :: l else y :: addF l x

theorem m_index (F : Nat) (x : Itm) : ∀ (l : List Itm) (c : Nat), ∃ r : Int, loopL (fun (nx38 : Unit → Option (Int)) (v8_1 : Nat) (x26 : S_api_Item) (_ : Unit) => (m_backfill_Apply_1_1 F x26 x).bind (fun y31 => (bif y31 then some ((v8_1 : Nat) : Int) else nx38 ()))) (fun (v8_1 : Nat) (_ : Unit) => some (-1)) l c () = some r ∧
    ((r = -1 ∧ addF l x = l ++ [x]) ∨ ∃ k, k < l.length ∧ r = ((c + k : Nat) : Int) ∧ addF l x = l.set k x)
  | [], c => ⟨-1, rfl, .inl ⟨rfl, rfl⟩⟩
  | y :: l, c => by
    obtain ⟨r, er, hr⟩ := m_index F x l (c + 1)
    rw [loopL]
    dsimp only
    rw [er]
    simp only [m_backfill_Apply_1_1, Option.bind_some]
    cases hy : (y.Name.toList == x.Name.toList) with
    | true =>
      refine ⟨_, rfl, .inr ⟨0, by simp, by simp, ?_⟩⟩
      rw [addF, if_pos (show sameN y x = true from hy)]; rfl
    | false =>
      refine ⟨r, rfl, ?_⟩
      have ha : addF (y :: l) x = y :: addF l x := by rw [addF, if_neg (by unfold sameN; rw [hy]; simp)]
      rcases hr with ⟨h1, h2⟩ | ⟨k, h1, h2, h3⟩
      · exact .inl ⟨h1, by rw [ha, h2]; rfl⟩
      · exact .inr ⟨k + 1, by simpa using h1, by rw [h2]; omega, by rw [ha, h3]; rfl⟩
theorem addF_len (l : List Itm) (x : Itm) : (addF l x).length ≤ l.length + 1 := by
  induction l with
  | nil => simp [addF]
  | cons y l ih => rw [addF]; split <;> simp; exact ih
theorem m_add (F : Nat) (l : List Itm) (x : Itm) (h : l.length ≤ 100000) : m_backfill_Apply_1 F x l = some (addF l x) := by
  simp only [m_backfill_Apply_1, m_slices_IndexFunc___api_Item_api_Item_]
  rw [grd_pos _ (by unfold Len; omega)]
  obtain ⟨r, er, hr⟩ := m_index F x l 0
  rw [er, Option.bind_some]
  rcases hr with ⟨h1, h2⟩ | ⟨k, h1, h2, h3⟩
  · rw [h1, show decide ((-1 : Int) ≥ 0) = false by decide, cond_false, grd_pos _ (App40' (by simp; omega)), h2]
  · rw [Nat.zero_add] at h2
    rw [h2, decide_eq_true (by omega), cond_true, grd_pos _ (by unfold Ix; omega), Int.toNat_natCast, h3]

theorem m_contains (F : Nat) (l : List ByteArray) (n : ByteArray) (h : l.length ≤ 1000000) : m_slices_Contains___string_string_ F l n = some (l.any fun d => n.toList == d.toList) := by
  simp only [m_slices_Contains___string_string_, m_slices_Index___string_string_]
  rw [grd_pos _ (by unfold Len; omega)]
  have key : ∀ (l : List ByteArray) (c : Nat), ∃ r : Int, loopL (fun (nx32 : Unit → Option (Int)) (v8_1 : Nat) (x22 : ByteArray) (_ : Unit) => (bif n.toList == x22.toList then some ((v8_1 : Nat) : Int) else nx32 ())) (fun (v8_1 : Nat) (_ : Unit) => some (-1)) l c () = some r ∧ decide (r ≥ 0) = l.any fun d => n.toList == d.toList := by
    intro l
    induction l with
    | nil => intro c; exact ⟨-1, rfl, rfl⟩
    | cons d l ih =>
      intro c
      obtain ⟨r, er, hr⟩ := ih (c + 1)
      rw [loopL]
      dsimp only
      rw [er, List.any_cons]
      cases (n.toList == d.toList) with
      | true => exact ⟨_, rfl, by simp⟩
      | false => exact ⟨r, rfl, by rw [hr]; simp⟩
  obtain ⟨r, er, hr⟩ := key l 0
  rw [er, Option.bind_some, hr]

def nd (drops : List ByteArray) (x : Itm) : Bool := !(drops.any fun d => x.Name.toList == d.toList)

theorem loop_add {ρ : Type} (N : Nat) (p : Itm → Bool) (st : (List Itm → Option ρ) → Nat → Itm → List Itm → Option ρ) (fin : Nat → List Itm → Option ρ) (R : List Itm → Option ρ)
    (hs : ∀ nx c x acc, acc.length < N → st nx c x acc = if p x = true then nx (addF acc x) else nx acc) (hf : ∀ c acc, acc.length ≤ N → fin c acc = R acc) :
    ∀ (l : List Itm) (c : Nat) (acc : List Itm), acc.length + l.length ≤ N → loopL st fin l c acc = R ((l.filter p).foldl addF acc)
  | [], c, acc, h => by rw [loopL, hf _ _ (by simpa using h)]; rfl
  | x :: l, c, acc, h => by
    rw [List.length_cons] at h
    have := addF_len acc x
    rw [loopL, hs _ _ _ _ (by omega), List.filter_cons]
    split
    · exact loop_add N p st fin R hs hf l (c + 1) _ (by omega)
    · exact loop_add N p st fin R hs hf l (c + 1) _ (by omega)
theorem foldl_add_len (l : List Itm) : ∀ acc : List Itm, (l.foldl addF acc).length ≤ acc.length + l.length := by
  induction l with
  | nil => intro acc; simp
  | cons x l ih => intro acc; have := ih (addF acc x); have := addF_len acc x; simp at *; omega

theorem m_apply (F : Nat) (items pulled : List Itm) (drops : List ByteArray) (h1 : items.length ≤ 400) (h2 : pulled.length ≤ 400) (h3 : drops.length ≤ 400) (hF : 2000 < F) :
    m_backfill_Apply F items pulled drops = some (isort ltI ((items.filter (nd drops) ++ pulled).foldl addF [])) := by
  simp only [m_backfill_Apply]
  rw [grd_pos _ (by unfold Len; omega)]
  have f1 := List.length_filter_le (nd drops) items
  refine (loop_add 400 (nd drops) _ _ (fun acc => some (isort ltI (pulled.foldl addF acc))) (fun nx c x acc ha => ?_) (fun c acc ha => ?_) items 0 [] (by simp; omega)).trans (by rw [← List.foldl_append])
  · rw [m_contains F drops x.Name (by omega), Option.bind_some]
    show _ = if nd drops x = true then _ else _
    unfold nd
    cases (drops.any fun d => x.Name.toList == d.toList) with
    | true => rfl
    | false =>
      simp only [Bool.not_false, cond_true, if_true]
      rw [m_add F acc x (by omega), Option.bind_some]
  · rw [grd_pos _ (by unfold Len; omega)]
    refine (loop_add 800 (fun _ => true) _ _ (fun acc => some (isort ltI acc)) (fun nx c x acc ha => ?_) (fun c acc ha => ?_) pulled 0 acc (by omega)).trans (by rw [List.filter_eq_self.2 (by simp)])
    · rw [m_add F acc x (by omega), Option.bind_some]; rfl
    · rw [m_byName F acc (by omega) (by omega)]; rfl

/-! ### The same, by definition -/
/-- Those behind which none of their name stands. -/
def lastOnly : List Itm → List Itm
  | [] => []
  | x :: r => if (r.all fun y => !sameN y x) = true then x :: lastOnly r else lastOnly r
abbrev Apart (L : List Itm) : Prop := L.Pairwise fun a b => a.Name ≠ b.Name

theorem lastOnly_sub : ∀ (l : List Itm) (x : Itm), x ∈ lastOnly l → x ∈ l
  | [], x, h => h
  | y :: r, x, h => by
    rw [lastOnly] at h
    split at h
    · rcases List.mem_cons.1 h with rfl | h
      · simp
      · simp [lastOnly_sub r x h]
    · simp [lastOnly_sub r x h]
theorem lastOnly_apart : ∀ l : List Itm, Apart (lastOnly l)
  | [] => List.Pairwise.nil
  | x :: r => by
    rw [lastOnly]
    split
    · next h =>
      refine List.pairwise_cons.2 ⟨fun y hy e => ?_, lastOnly_apart r⟩
      have := List.all_eq_true.1 h y (lastOnly_sub r y hy)
      rw [show sameN y x = true from sameN_iff.2 e.symm] at this
      cases this
    · exact lastOnly_apart r
theorem mem_lastOnly_snoc (y z : Itm) : ∀ l : List Itm, z ∈ lastOnly (l ++ [y]) ↔ z = y ∨ (z ∈ lastOnly l ∧ z.Name ≠ y.Name)
  | [] => by simp [lastOnly]
  | x :: l => by
    have ih := mem_lastOnly_snoc y z l
    rw [List.cons_append, lastOnly, lastOnly, List.all_append]
    by_cases hx : sameN y x = true
    · have e : ([y].all fun q => !sameN q x) = false := by simp [hx]
      rw [e, Bool.and_false, if_neg (by simp), ih]
      split
      · constructor
        · rintro (h | ⟨h, g⟩)
          · exact .inl h
          · exact .inr ⟨by simp [h], g⟩
        · rintro (h | ⟨h, g⟩)
          · exact .inl h
          · rcases List.mem_cons.1 h with rfl | h
            · exact absurd (sameN_iff.1 hx).symm g
            · exact .inr ⟨h, g⟩
      · rfl
    · have e : ([y].all fun q => !sameN q x) = true := by simp [hx]
      rw [e, Bool.and_true]
      split
      · rw [List.mem_cons, List.mem_cons, ih]
        have hne : x.Name ≠ y.Name := fun q => hx (sameN_iff.2 q.symm)
        constructor
        · rintro (rfl | h | ⟨h, g⟩)
          · exact .inr ⟨.inl rfl, hne⟩
          · exact .inl h
          · exact .inr ⟨.inr h, g⟩
        · rintro (h | ⟨h | h, g⟩)
          · exact .inr (.inl h)
          · exact .inl h
          · exact .inr (.inr ⟨h, g⟩)
      · exact ih

theorem mem_addF (x z : Itm) : ∀ l : List Itm, Apart l → (z ∈ addF l x ↔ z = x ∨ (z ∈ l ∧ z.Name ≠ x.Name))
  | [], _ => by simp [addF]
  | y :: l, h => by
    have hp := List.pairwise_cons.1 h
    rw [addF]
    split
    · next hy =>
      have hy := sameN_iff.1 hy
      rw [List.mem_cons, List.mem_cons]
      constructor
      · rintro (h | h)
        · exact .inl h
        · exact .inr ⟨.inr h, fun e => hp.1 z h (hy.trans e.symm)⟩
      · rintro (h | ⟨rfl | h, g⟩)
        · exact .inl h
        · exact absurd hy g
        · exact .inr h
    · next hy =>
      have hy : y.Name ≠ x.Name := fun e => hy (sameN_iff.2 e)
      rw [List.mem_cons, List.mem_cons, mem_addF x z l hp.2]
      constructor
      · rintro (rfl | h | ⟨h, g⟩)
        · exact .inr ⟨.inl rfl, hy⟩
        · exact .inl h
        · exact .inr ⟨.inr h, g⟩
      · rintro (h | ⟨h | h, g⟩)
        · exact .inr (.inl h)
        · exact .inl h
        · exact .inr (.inr ⟨h, g⟩)
theorem addF_apart (x : Itm) : ∀ l : List Itm, Apart l → Apart (addF l x)
  | [], _ => by simp [addF]
  | y :: l, h => by
    have hp := List.pairwise_cons.1 h
    rw [addF]
    split
    · next hy =>
      have hy := sameN_iff.1 hy
      exact List.pairwise_cons.2 ⟨fun z hz e => hp.1 z hz (hy.trans e), hp.2⟩
    · next hy =>
      have hy : y.Name ≠ x.Name := fun e => hy (sameN_iff.2 e)
      refine List.pairwise_cons.2 ⟨fun z hz => ?_, addF_apart x l hp.2⟩
      rcases (mem_addF x z l hp.2).1 hz with rfl | ⟨h, _⟩
      · exact hy
      · exact hp.1 z h

theorem fold_last : ∀ (n : Nat) (W : List Itm), W.length = n → Apart (W.foldl addF []) ∧ ∀ z, z ∈ W.foldl addF [] ↔ z ∈ lastOnly W
  | 0, W, h => by rw [List.length_eq_zero_iff.1 h]; exact ⟨List.Pairwise.nil, fun z => Iff.rfl⟩
  | n + 1, W, h => by
    obtain ⟨l, y, rfl⟩ := (List.eq_nil_or_concat W).resolve_left (fun e => by rw [e] at h; cases h)
    rw [List.concat_eq_append] at *
    obtain ⟨h1, h2⟩ := fold_last n l (by simpa using h)
    rw [List.foldl_append]
    refine ⟨addF_apart y _ h1, fun z => ?_⟩
    show z ∈ addF (l.foldl addF []) y ↔ _
    rw [mem_addF y z _ h1, mem_lastOnly_snoc, h2]

/-- Two lists of the same items, no two of one name, sorted: the same. -/
theorem insR_apart (x : Itm) (L : List Itm) (hu : Up L) (h : Apart L) (hx : ∀ z ∈ L, x.Name ≠ z.Name) : Apart (insR ltI x L) := by
  obtain ⟨A, B, rfl, h1, h2⟩ := up_split x L hu
  rw [insR_split x A B h1 h2]
  have hp := List.pairwise_append.1 h
  refine List.pairwise_append.2 ⟨hp.1, List.pairwise_cons.2 ⟨fun z hz => hx z (by simp [hz]), hp.2.1⟩, fun a ha b hb => ?_⟩
  rcases List.mem_cons.1 hb with rfl | hb
  · exact fun e => hx a (by simp [ha]) e.symm
  · exact hp.2.2 a ha b hb
theorem isort_apart_names : ∀ (n : Nat) (l : List Itm), l.length = n → Apart l → Apart (isort ltI l)
  | 0, l, h, _ => by rw [List.length_eq_zero_iff.1 h]; exact List.Pairwise.nil
  | n + 1, W, h, ha => by
    obtain ⟨l, y, rfl⟩ := (List.eq_nil_or_concat W).resolve_left (fun e => by rw [e] at h; cases h)
    rw [List.concat_eq_append] at *
    have hp := List.pairwise_append.1 ha
    rw [isort_snoc]
    exact insR_apart y _ (isort_up l) (isort_apart_names n l (by simpa using h) hp.1) (fun z hz => fun e => hp.2.2 z ((mem_isort ltI z l).1 hz) y (by simp) e.symm)

theorem up_strict {L : List Itm} (hu : Up L) (ha : Apart L) : L.Pairwise fun a b => ltI a b = true := by
  refine (hu.and ha).imp ?_
  rintro a b ⟨h1, h2⟩
  rw [ltI_is] at *
  exact lex_total h1 (fun e => h2 (str_tl_inj (by rw [ByteArray.toList_eq, ByteArray.toList_eq]; exact e.symm)))
theorem strict_eq : ∀ (A B : List Itm), (A.Pairwise fun a b => ltI a b = true) → (B.Pairwise fun a b => ltI a b = true) → (∀ z, z ∈ A ↔ z ∈ B) → A = B
  | [], [], _, _, _ => rfl
  | [], b :: B, _, _, h => by have := (h b).2 (by simp); cases this
  | a :: A, [], _, _, h => by have := (h a).1 (by simp); cases this
  | a :: A, b :: B, hA, hB, h => by
    have pA := List.pairwise_cons.1 hA
    have pB := List.pairwise_cons.1 hB
    have irr : ∀ x y : Itm, ltI x y = true → ltI y x = true → False := fun x y h1 h2 => by
      rw [ordI.as _ _ trivial trivial h1] at h2; cases h2
    have hab : a = b := by
      rcases List.mem_cons.1 ((h a).1 (by simp)) with h1 | h1
      · exact h1
      · rcases List.mem_cons.1 ((h b).2 (by simp)) with h2 | h2
        · exact h2.symm
        · exact (irr _ _ (pB.1 a h1) (pA.1 b h2)).elim
    subst hab
    have self : ltI a a = true → False := fun h => irr _ _ h h
    rw [strict_eq A B pA.2 pB.2 (fun z => ⟨fun hz => ?_, fun hz => ?_⟩)]
    · rcases List.mem_cons.1 ((h z).1 (by simp [hz])) with rfl | h1
      · exact (self (pA.1 _ hz)).elim
      · exact h1
    · rcases List.mem_cons.1 ((h z).2 (by simp [hz])) with rfl | h1
      · exact (self (pB.1 _ hz)).elim
      · exact h1
theorem isort_same (A B : List Itm) (hA : Apart A) (hB : Apart B) (h : ∀ z, z ∈ A ↔ z ∈ B) : isort ltI A = isort ltI B :=
  strict_eq _ _ (up_strict (isort_up A) (isort_apart_names _ A rfl hA)) (up_strict (isort_up B) (isort_apart_names _ B rfl hB)) (fun z => by rw [mem_isort, mem_isort]; exact h z)

theorem isort_strict (L : List Itm) (h : L.Pairwise fun a b => ltI a b = true) (ha : Apart L) : isort ltI L = L :=
  strict_eq _ _ (up_strict (isort_up L) (isort_apart_names _ L rfl ha)) h (fun z => by rw [mem_isort])
end Go.Proofs.Yticlccnajfjdeaa
