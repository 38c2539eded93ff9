/-
  CHAPTER 20, BackfillMeets: plain facts on the models: the plan by logs is the plan by catalogues.
-/
import Derived.Test.YticlccnajfjdeaaP20mh
set_option linter.unusedVariables false
set_option linter.unusedSimpArgs false
set_option maxRecDepth 1000000
namespace Go.Proofs.Yticlccnajfjdeaa
open Go Go.RowKit Sx

theorem awake20m : m_tholelaw20_awake 3000 = some true := by kernel_rfl

theorem bif_len {α : Type} (b : Bool) (x : α) : (bif b then [x] else []).length ≤ 1 := by cases b <;> simp
theorem mem_bif {α : Type} {b : Bool} {x n : α} : n ∈ (bif b then [x] else []) ↔ b = true ∧ n = x := by cases b <;> simp

/-! ### Touched -/
def touch (acc : List ByteArray) (e : Ent13) : List ByteArray := bif e.Errno == 0 then putG kN e.Name false acc else acc
theorem touch_len (e : Ent13) (acc : List ByteArray) : (touch acc e).length ≤ acc.length + 1 := by
  unfold touch
  have := putG_len kN e.Name acc false
  cases e.Errno == 0 <;> simp only [cond_true, cond_false] at * <;> omega
theorem touch_ri (e : Ent13) {acc : List ByteArray} (h : Ri kN acc) : Ri kN (touch acc e) := by
  unfold touch
  cases e.Errno == 0
  · exact h
  · exact putG_ri kN _ _ _ h (fun _ _ _ => trivial)
theorem touch_keep (e : Ent13) {acc : List ByteArray} {n : ByteArray} (h : n ∈ acc) : n ∈ touch acc e := by
  unfold touch
  cases e.Errno == 0
  · exact h
  · rw [cond_true, mem_putF]
    by_cases he : kN n = kN e.Name
    · exact .inl (str_tl_inj he)
    · exact .inr ⟨h, he⟩
theorem touch_in {e : Ent13} (he : e.Errno = 0) (acc : List ByteArray) : e.Name ∈ touch acc e := by
  unfold touch
  rw [he, show ((0 : Int) == 0) = true from rfl, cond_true, mem_putF]
  exact .inl rfl
theorem touches : ∀ (l : List Ent13) (acc : List ByteArray), Ri kN acc → Ri kN (l.foldl touch acc) ∧ (l.foldl touch acc).length ≤ acc.length + l.length ∧ (∀ n ∈ acc, n ∈ l.foldl touch acc) ∧ ∀ e ∈ l, e.Errno = 0 → e.Name ∈ l.foldl touch acc
  | [], acc, h => ⟨h, by simp, fun n h => h, fun e he => by cases he⟩
  | x :: l, acc, h => by
    obtain ⟨h1, h2, h3, h4⟩ := touches l (touch acc x) (touch_ri x h)
    have := touch_len x acc
    rw [List.foldl_cons, List.length_cons]
    refine ⟨h1, by omega, fun n hn => h3 n (touch_keep x hn), fun e he h0 => ?_⟩
    rcases List.mem_cons.1 he with rfl | he
    · exact h3 _ (touch_in h0 acc)
    · exact h4 e he h0
def TT (a b : Stt) : List ByteArray := (divF a b ++ lackF a b).foldl touch []
theorem TT_ri (a b : Stt) : Ri kN (TT a b) := (touches _ [] List.Pairwise.nil).1
theorem TT_len (a b : Stt) : (TT a b).length ≤ a.log.length + b.log.length := by
  have h1 := (touches (divF a b ++ lackF a b) [] List.Pairwise.nil).2.1
  have h2 := divF_len a b
  have h3 := lackF_len a b
  rw [List.length_append, List.length_nil] at h1
  unfold TT
  omega
theorem TT_mem (a b : Stt) {e : Ent13} (h : e ∈ divF a b ∨ e ∈ lackF a b) (h0 : e.Errno = 0) : e.Name ∈ TT a b :=
  (touches _ [] List.Pairwise.nil).2.2.2 e (List.mem_append.2 h) h0

theorem loop_touch {ρ : Type} (F : Nat) (R : List ByteArray → Option ρ) (st : (List ByteArray → Option ρ) → Nat → Ent13 → List ByteArray → Option ρ) (fin : Nat → List ByteArray → Option ρ)
    (hs : ∀ nx c x acc, acc.length ≤ 2000 → st nx c x acc = nx (touch acc x)) (hf : ∀ c acc, fin c acc = R acc) : ∀ (l : List Ent13) (c : Nat) (acc : List ByteArray), acc.length + l.length ≤ 2000 → loopL st fin l c acc = R (l.foldl touch acc)
  | [], c, acc, _ => by rw [loopL, hf]; rfl
  | x :: l, c, acc, h => by
    rw [List.length_cons] at h
    have := touch_len x acc
    rw [loopL, hs _ _ _ _ (by omega), loop_touch F R st fin hs hf l (c + 1) _ (by omega)]
    rfl
theorem m_touched (F : Nat) (a b : Stt) (ha : a.log.length ≤ 900) (hb : b.log.length ≤ 900) : m_tholeref14_Touched F a.les a.tail a.log a.lasts a.items b.les b.tail b.log b.lasts b.items = some (TT a b) := by
  have h2 := divF_len a b
  have h3 := lackF_len a b
  simp only [m_tholeref14_Touched]
  rw [m_refdiv F a b (by omega) (by omega), Option.bind_some, m_reflack F a b (by omega) (by omega), Option.bind_some, grd_pos _ (A64 (by omega)), grd_pos _ (by unfold Len; rw [List.length_append]; omega)]
  refine loop_touch F some _ _ (fun nx c x acc hc => ?_) (fun c acc => rfl) (divF a b ++ lackF a b) 0 [] (by rw [List.length_append, List.length_nil]; omega)
  unfold touch
  cases x.Errno == 0 with
  | true => rw [cond_true, cond_true, m_put F acc x.Name hc, Option.bind_some]
  | false => rfl

/-! ### The plan by logs -/
def dPull (own want : List Itm) (n : ByteArray) : List Itm :=
  bif (findF want n).2 && (!(findF own n).2 || (!(S_api_Version.beq (findF own n).1.Version (findF want n).1.Version) || ((findF own n).1.Crc != (findF want n).1.Crc))) then [(findF want n).1] else []
def dDrop (own want : List Itm) (n : ByteArray) : List ByteArray := bif !(findF want n).2 && (findF own n).2 then [n] else []
theorem m_diff (F : Nat) (a b : Stt) (ha : a.Small 900) (hb : b.Small 900) : m_tholeref14_Diff F a.les a.tail a.log a.lasts a.items b.les b.tail b.log b.lasts b.items =
    some (bif (commonF a b).2 then ((TT a b).flatMap (dPull a.items b.items), (TT a b).flatMap (dDrop a.items b.items), true) else ([], [], false)) := by
  have z1 := ha.log
  have z2 := hb.log
  have z3 := ha.items
  have z4 := hb.items
  simp only [m_tholeref14_Diff]
  rw [m_refcommon F a b (by omega) (by omega), Option.bind_some]
  cases (commonF a b).2 with
  | false => rfl
  | true =>
    have hT := TT_len a b
    rw [Bool.not_true, cond_false, m_touched F a b z1 z2, Option.bind_some, grd_pos _ (by unfold Len; omega)]
    refine (loop_gather2 (dPull a.items b.items) (dDrop a.items b.items) (fun x => bif_len _ _) (fun x => bif_len _ _) _ _ (fun p q => some (p, q, true)) (fun nx c x p q hp hq => ?_) (fun c p q => rfl) (TT a b) 0 [] [] (by simp; omega) (by simp; omega)).trans rfl
    dsimp only
    rw [m_reffind F a x (by omega), Option.bind_some, m_reffind F b x (by omega), Option.bind_some]
    unfold dPull dDrop
    simp only [jn]
    cases (findF b.items x).2 <;> cases (findF a.items x).2 <;> cases S_api_Version.beq (findF a.items x).1.Version (findF b.items x).1.Version <;> cases ((findF a.items x).1.Crc != (findF b.items x).1.Crc) <;> simp only [Bool.not_true, Bool.not_false, cond_true, cond_false, Bool.true_and, Bool.false_and, Bool.or_true, Bool.or_false, Bool.true_or, Bool.false_or, List.append_nil] <;> (repeat rw [grd_pos _ (by unfold App; simp only [List.length_cons, List.length_nil]; omega)])

/-! ### The plan by catalogues -/
def pPull (own : List Itm) (w : Itm) : List Itm := bif !(findF own w.Name).2 || !(S_api_Item.beq (findF own w.Name).1 w) then [w] else []
def pDrop (want : List Itm) (x : Itm) : List ByteArray := bif !(findF want x.Name).2 then [x.Name] else []
theorem ri_isort {L : List Itm} (h : Ri kI L) : isort ltI L = L := by
  refine isort_strict L (h.imp fun {a b} hab => ?_) (h.imp fun {a b} hab e => ?_)
  · rw [ltI_is, ← ByteArray.toList_eq, ← ByteArray.toList_eq]; exact hab
  · unfold kI at hab; rw [e] at hab; exact bl_ne hab rfl
theorem m_plan2 (F : Nat) (hF : 2900 ≤ F) (a b : Stt) (ha : a.items.length ≤ 900) (hb : b.items.length ≤ 900) (hra : Ri kI a.items) (hrb : Ri kI b.items) :
    m_backfill_Plan F a.les a.tail a.log a.lasts a.items b.les b.tail b.log b.lasts b.items = some (b.items.flatMap (pPull a.items), a.items.flatMap (pDrop b.items)) := by
  simp only [m_backfill_Plan]
  rw [m_byName F b.items (by omega) (by omega), Option.bind_some, ri_isort hrb, grd_pos _ (by unfold Len; omega)]
  refine loop_gather (pPull a.items) (fun x => bif_len _ _) _ _ (fun p => some (p, a.items.flatMap (pDrop b.items))) (fun _ _ => True) (fun _ _ _ _ => trivial) (fun nx c x l acc hc _ => ?_) (fun c p => ?_) b.items 0 [] (by simp; omega) trivial
  · rw [m_find F a x.Name (by omega), Option.bind_some]
    unfold pPull
    simp only [jn]
    cases (findF a.items x.Name).2 <;> cases S_api_Item.beq (findF a.items x.Name).1 x <;> simp only [Bool.not_true, Bool.not_false, cond_true, cond_false, Bool.true_and, Bool.false_and, Bool.or_true, Bool.or_false, Bool.true_or, Bool.false_or, List.append_nil] <;> (repeat rw [grd_pos _ (by unfold App; simp only [List.length_cons, List.length_nil]; omega)])
  · rw [m_byName F a.items (by omega) (by omega), Option.bind_some, ri_isort hra, grd_pos _ (by unfold Len; omega)]
    refine loop_gather (pDrop b.items) (fun x => bif_len _ _) _ _ (fun q => some (p, q)) (fun acc l => Ri kI l ∧ ∀ n ∈ acc, ∀ x ∈ l, kN n ≠ kI x) (fun acc x l hi => ?_) (fun nx c x l acc hc hi => ?_) (fun c q => rfl) a.items 0 [] (by simp; omega) ⟨hra, fun n hn => by cases hn⟩
    · have q := List.pairwise_cons.1 hi.1
      refine ⟨q.2, fun n hn y hy => ?_⟩
      rcases List.mem_append.1 hn with h | h
      · exact hi.2 n h y (List.mem_cons_of_mem _ hy)
      · have h := (mem_bif.1 h).2
        subst h; exact bl_ne (q.1 y hy)
    · rw [m_find F b x.Name (by omega), Option.bind_some]
      unfold pDrop
      simp only [jn]
      cases (findF b.items x.Name).2 with
      | true => simp only [Bool.not_true, cond_false, List.append_nil]
      | false =>
        simp only [Bool.not_false, cond_true]
        by_cases h0 : acc = []
        · subst h0
          rw [show (((([] : List ByteArray).length : Nat) : Int) == 0) = true from rfl, cond_true, grd_pos _ (by unfold App; simp only [List.length_cons, List.length_nil]; omega)]
        · have hp : 0 < acc.length := List.length_pos_iff.2 h0
          rw [show (((acc.length : Nat) : Int) == 0) = false by rw [beq_eq_false_iff_ne]; omega, cond_false, grd_pos _ (by unfold I64; omega), grd_pos _ (by unfold Ix; omega), show Int.toNat (((acc.length : Nat) : Int) - 1) = acc.length - 1 by omega]
          have hm : acc.getD (acc.length - 1) (ByteArray.mk #[]) ∈ acc := by
            rw [List.getD, List.getElem?_eq_getElem (by omega), Option.getD_some]; exact List.getElem_mem _
          have hne : ((acc.getD (acc.length - 1) (ByteArray.mk #[])).toList == x.Name.toList) = false := by
            rw [beq_eq_false_iff_ne]; exact hi.2 _ hm x (by simp)
          rw [hne, Bool.not_false, cond_true, grd_pos _ (by unfold App; simp only [List.length_cons, List.length_nil]; omega)]

end Go.Proofs.Yticlccnajfjdeaa
