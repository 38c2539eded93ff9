/-
  CHAPTER 20: plain facts on the models: the reference's sort; what sorting and picking have to do with each other.
-/
import Derived.Test.YticlccnajfjdeaaP20rc
set_option linter.unusedVariables false
set_option linter.unusedSimpArgs false
set_option maxRecDepth 100000
namespace Go.Proofs.Yticlccnajfjdeaa
open Go Go.RowKit Sx

/-- No element is less than one ahead of it. -/
abbrev Up (L : List Itm) : Prop := L.Pairwise fun a b => ltI b a = false

theorem insR_split (x : Itm) : ∀ (A B : List Itm), (∀ z ∈ A, ltI x z = false) → (∀ z ∈ B, ltI x z = true) → insR ltI x (A ++ B) = A ++ x :: B
  | [], [], _, _ => rfl
  | [], b :: B, _, h => by rw [List.nil_append, insR, if_pos (h b (by simp))]; rfl
  | a :: A, B, h1, h2 => by
    rw [List.cons_append, insR, if_neg (by rw [h1 a (by simp)]; simp), insR_split x A B (fun z hz => h1 z (by simp [hz])) h2]
    rfl

/-- An element finds its place in a list that rises. -/
theorem up_split (x : Itm) : ∀ (L : List Itm), Up L → ∃ A B, L = A ++ B ∧ (∀ z ∈ A, ltI x z = false) ∧ (∀ z ∈ B, ltI x z = true)
  | [], _ => ⟨[], [], rfl, by simp, by simp⟩
  | a :: L, h => by
    cases hx : ltI x a with
    | true =>
      refine ⟨[], a :: L, rfl, by simp, fun z hz => ?_⟩
      rcases List.mem_cons.1 hz with rfl | hz
      · exact hx
      · exact le_lt hx ((List.pairwise_cons.1 h).1 z hz)
    | false =>
      obtain ⟨A, B, rfl, h1, h2⟩ := up_split x L (List.pairwise_cons.1 h).2
      refine ⟨a :: A, B, rfl, fun z hz => ?_, h2⟩
      rcases List.mem_cons.1 hz with rfl | hz
      · exact hx
      · exact h1 z hz

theorem insR_up (x : Itm) (L : List Itm) (h : Up L) : Up (insR ltI x L) := by
  obtain ⟨A, B, rfl, h1, h2⟩ := up_split x L h
  rw [insR_split x A B h1 h2]
  have hp := List.pairwise_append.1 h
  refine List.pairwise_append.2 ⟨hp.1, List.pairwise_cons.2 ⟨fun z hz => ordI.as _ _ trivial trivial (h2 z hz), hp.2.1⟩, fun a ha b hb => ?_⟩
  rcases List.mem_cons.1 hb with rfl | hb
  · exact h1 a ha
  · exact hp.2.2 a ha b hb
theorem isort_up (l : List Itm) : Up (isort ltI l) := by
  have : ∀ (l acc : List Itm), Up acc → Up (l.foldl (fun acc y => insR ltI y acc) acc) := by
    intro l
    induction l with
    | nil => intro acc h; exact h
    | cons x l ih => intro acc h; exact ih _ (insR_up x acc h)
  exact this l [] List.Pairwise.nil

theorem insR_filter (p : Itm → Bool) (x : Itm) (L : List Itm) (h : Up L) : (insR ltI x L).filter p = if p x then insR ltI x (L.filter p) else L.filter p := by
  obtain ⟨A, B, rfl, h1, h2⟩ := up_split x L h
  rw [insR_split x A B h1 h2, List.filter_append, List.filter_cons, List.filter_append]
  split
  · rw [insR_split x _ _ (fun z hz => h1 z (List.mem_filter.1 hz).1) (fun z hz => h2 z (List.mem_filter.1 hz).1)]
  · rfl
theorem isort_filter (p : Itm → Bool) (l : List Itm) : (isort ltI l).filter p = isort ltI (l.filter p) := by
  have : ∀ (l acc : List Itm), Up acc → (l.foldl (fun acc y => insR ltI y acc) acc).filter p = (l.filter p).foldl (fun acc y => insR ltI y acc) (acc.filter p) := by
    intro l
    induction l with
    | nil => intro acc h; rfl
    | cons x l ih =>
      intro acc h
      rw [List.foldl_cons, ih _ (insR_up x acc h), insR_filter p x acc h, List.filter_cons]
      split <;> rfl
  exact this l [] List.Pairwise.nil
theorem isort_apart (A B : List Itm) (h : ∀ a ∈ A, ∀ b ∈ B, ltI b a = false) : isort ltI (A ++ B) = isort ltI A ++ isort ltI B := by
  rw [isort_append ltI ordI A (fun _ _ => trivial) _ B rfl (fun _ _ => trivial)]
  have := mergeL_split ltI (isort ltI A) [] [] (isort ltI B) (fun y hy => by cases hy) (fun x hx y hy => h x ((mem_isort ltI x A).1 hx) y ((mem_isort ltI y B).1 hy))
  rwa [List.append_nil, List.nil_append, mergeL_nil, nil_mergeL] at this

/-! ### The reference's sort -/
theorem gt_is (a x : Itm) : (!(Op.bytesLess a.Name.toList x.Name.toList || a.Name.toList == x.Name.toList)) = ltI x a := by
  rw [ltI_is, ByteArray.toList_eq, ByteArray.toList_eq]
  cases h : Op.bytesLess a.Name.data.toList x.Name.data.toList with
  | true => rw [bl_as _ _ h]; rfl
  | false =>
    cases g : (a.Name.data.toList == x.Name.data.toList) with
    | true =>
      rw [beq_iff_eq.1 g, lex_irrefl]; rfl
    | false =>
      rw [lex_total h (by simpa using g)]; rfl

theorem loop_hole {ρ : Type} (x : Itm) (r : Option ρ) (st : (Int × List Itm → Option ρ) → Int × List Itm → Option ρ) (acc : List Itm)
    (h1 : ∀ nx (A B : List Itm) (z j : Itm), A.length + B.length + 1 = acc.length → ltI x z = true → st nx (((A.length + 1 : Nat) : Int), A ++ z :: j :: B) = nx ((A.length : Int), A ++ z :: z :: B))
    (h2 : ∀ nx (A B : List Itm) (j : Itm), A.length + B.length = acc.length → A ++ B = acc → (∀ z ∈ A, ltI x z = false) → (∀ z ∈ B, ltI x z = true) → st nx ((A.length : Int), A ++ j :: B) = r) (hup : Up acc) :
    ∀ (n : Nat) (A B : List Itm) (j : Itm), A.length < n → A ++ B = acc → (∀ z ∈ B, ltI x z = true) → loopW st n ((A.length : Int), A ++ j :: B) = r
  | 0, A, B, j, h, _, _ => by omega
  | n + 1, A, B, j, h, he, hB => by
    have hl : A.length + B.length = acc.length := by rw [← he, List.length_append]
    rw [loopW]
    rcases List.eq_nil_or_concat A with rfl | ⟨A', z, rfl⟩
    · exact h2 _ [] B j hl he (by simp) hB
    · rw [List.concat_eq_append] at *
      cases hx : ltI x z with
      | true =>
        have e1 : A' ++ [z] ++ j :: B = A' ++ z :: j :: B := by simp
        have e2 : (A' ++ [z]).length = A'.length + 1 := by simp
        rw [e1, e2, h1 _ A' B z j (by simp at hl; omega) hx]
        exact loop_hole x r st acc h1 h2 hup n A' (z :: B) z (by simp at h; omega) (by rw [← he]; simp) (fun y hy => by
          rcases List.mem_cons.1 hy with rfl | hy
          · exact hx
          · exact hB y hy)
      | false =>
        refine h2 _ _ B j hl he (fun y hy => ?_) hB
        rcases List.mem_append.1 hy with hy | hy
        · rw [← he] at hup
          have := (List.pairwise_append.1 (List.pairwise_append.1 hup).1).2.2 y hy z (by simp)
          exact ge_ge this hx
        · rw [List.mem_singleton.1 hy]; exact hx

theorem loop_sorted {ρ : Type} (N : Nat) (st : (List Itm → Option ρ) → Nat → Itm → List Itm → Option ρ) (fin : Nat → List Itm → Option ρ) (R : List Itm → Option ρ)
    (hs : ∀ nx c x acc, acc.length < N → Up acc → st nx c x acc = nx (insR ltI x acc)) (hf : ∀ c acc, fin c acc = R acc) :
    ∀ (l : List Itm) (c : Nat) (acc : List Itm), acc.length + l.length ≤ N → Up acc → loopL st fin l c acc = R (l.foldl (fun acc y => insR ltI y acc) acc)
  | [], c, acc, _, _ => by rw [loopL, hf]; rfl
  | x :: l, c, acc, h, hu => by
    rw [List.length_cons] at h
    rw [loopL, hs _ _ _ _ (by omega) hu]
    exact loop_sorted N st fin R hs hf l (c + 1) _ (by rw [insR_len]; omega) (insR_up x acc hu)

theorem m_sorted (F : Nat) (l : List Itm) (hl : l.length ≤ 1000000) (hF : l.length + 2 < F) : m_tholeref20_sorted F l = some (isort ltI l) := by
  simp only [m_tholeref20_sorted]
  rw [grd_pos _ (by unfold Len; omega)]
  refine loop_sorted l.length _ _ some (fun nx c x acc ha hu => ?_) (fun c acc => rfl) l 0 [] (by simp) List.Pairwise.nil
  rw [grd_pos _ (by unfold App; simp; omega)]
  refine loop_hole x (nx (insR ltI x acc)) _ acc (fun nx' A B z j hAB hz => ?_) (fun nx' A B j hAB he hA hB => ?_) hu F acc [] x (by omega) (by simp) (by simp)
  · have g1 : (A ++ z :: j :: B).getD A.length dS_api_Item = z := by simp [List.getD]
    have g2 : (A ++ z :: j :: B).set (A.length + 1) z = A ++ z :: z :: B := by
      rw [List.set_append_right _ _ (by omega)]; simp
    have gl : (A ++ z :: j :: B).length = A.length + B.length + 2 := by simp; omega
    dsimp only [jn]
    have t1 : Int.toNat (((A.length + 1 : Nat) : Int) - 1) = A.length := by omega
    rw [decide_eq_true (by omega), cond_true, grd_pos _ (by unfold I64; omega), grd_pos _ (by unfold Ix; rw [gl]; omega), t1, g1, gt_is, hz, cond_true, grd_pos _ (by unfold I64; omega), grd_pos _ (by unfold Ix; rw [gl]; omega), grd_pos _ (by unfold Ix; rw [gl]; omega), Int.toNat_natCast, g2, show (((A.length + 1 : Nat) : Int) - 1) = (A.length : Int) by omega]
  · have gl : (A ++ j :: B).length = A.length + B.length + 1 := by simp; omega
    have g3 : (A ++ j :: B).set A.length x = A ++ x :: B := by rw [List.set_append_right _ _ (by omega)]; simp
    have e : nx (A ++ x :: B) = nx (insR ltI x acc) := by rw [← he, insR_split x A B hA hB]
    dsimp only [jn]
    by_cases h0 : A = []
    · subst h0
      rw [decide_eq_false (by simp), cond_false, cond_false, grd_pos _ (by unfold Ix; rw [gl]; simp), Int.toNat_natCast, g3, e]
    · obtain ⟨A', z, rfl⟩ := (List.eq_nil_or_concat A).resolve_left h0
      rw [List.concat_eq_append] at *
      have g1 : (A' ++ [z] ++ j :: B).getD A'.length dS_api_Item = z := by simp [List.getD]
      have ll : (A' ++ [z]).length = A'.length + 1 := by simp
      have t1 : Int.toNat ((((A' ++ [z]).length : Nat) : Int) - 1) = A'.length := by omega
      rw [decide_eq_true (by omega), cond_true, grd_pos _ (by unfold I64; omega), grd_pos _ (by unfold Ix; rw [gl]; omega), t1, g1, gt_is, hA z (by simp), cond_false, grd_pos _ (by unfold Ix; rw [gl]; omega), Int.toNat_natCast, g3, e]

/-! ### Done -/
def upTo (w : ByteArray) (x : Itm) : Bool := Op.bytesLess x.Name.toList w.toList || x.Name.toList == w.toList
theorem upTo_lt {w : ByteArray} {a b : Itm} (h1 : upTo w a = true) (h2 : upTo w b = false) : ltI b a = false := by
  unfold upTo at h1 h2
  rw [ltI_is]
  rw [ByteArray.toList_eq, ByteArray.toList_eq] at h1 h2
  simp only [Bool.or_eq_false_iff, Bool.or_eq_true] at h1 h2
  have h3 := lex_total h2.1 (by simpa using h2.2)
  rcases h1 with h1 | h1
  · exact bl_as _ _ (lex_trans h1 h3)
  · rw [beq_iff_eq.1 h1]; exact bl_as _ _ h3
def doneF (own want : List Itm) (w : ByteArray) : List Itm := isort ltI (want.filter (upTo w) ++ own.filter fun x => !upTo w x)
theorem App40' {n : Nat} (h : n ≤ 1000000) : App n 40 := by unfold App; omega
theorem m_done (F : Nat) (l1 : Int) (t1 : S_api_Version) (g1 : List S_api_Entry) (s1 : List S_api_Last) (own : List Itm) (l2 : Int) (t2 : S_api_Version) (g2 : List S_api_Entry) (s2 : List S_api_Last) (want : List Itm) (w : ByteArray)
    (h : own.length + want.length ≤ 400) (hF : 2000 < F) : m_backfill_Done F l1 t1 g1 s1 own l2 t2 g2 s2 want w = some (doneF own want w) := by
  simp only [m_backfill_Done]
  rw [grd_pos _ (by unfold Len; omega)]
  refine (loop_filter (upTo w) 40 _ want 0 [] (App40' (by simp; omega))).trans ?_
  have f1 := List.length_filter_le (upTo w) want
  have f2 := List.length_filter_le (fun x => !upTo w x) own
  rw [grd_pos _ (by unfold Len; omega), List.nil_append]
  refine (loop_filter (fun x => !upTo w x) 40 _ own 0 _ (App40' (by omega))).trans ?_
  rw [m_byName F _ (by rw [List.length_append]; omega) (by rw [List.length_append]; omega)]
  rfl
end Go.Proofs.Yticlccnajfjdeaa
