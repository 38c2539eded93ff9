/-
  CHAPTER 20: plain facts on the models: batches, one behind the other; the law.
-/
import Derived.Test.YticlccnajfjdeaaP20re
set_option linter.unusedVariables false
set_option linter.unusedSimpArgs false
set_option maxRecDepth 100000
namespace Go.Proofs.Yticlccnajfjdeaa
open Go Go.RowKit Sx

theorem isort_id : ∀ {L : List Itm}, Up L → isort ltI L = L
  | [], _ => rfl
  | x :: L, h => by
    have h2 := List.pairwise_cons.1 h
    have := isort_apart [x] L (fun a ha b hb => by rw [List.mem_singleton.1 ha]; exact h2.1 b hb)
    rw [show x :: L = [x] ++ L from rfl, this, isort_id h2.2]
    rfl

theorem upTo_of {z y : Itm} (h : ltI z y = false) : upTo z.Name y = true := by
  unfold upTo
  rw [ltI_is] at h
  rw [ByteArray.toList_eq, ByteArray.toList_eq]
  cases h1 : Op.bytesLess y.Name.data.toList z.Name.data.toList with
  | true => rfl
  | false =>
    cases h2 : (y.Name.data.toList == z.Name.data.toList) with
    | true => rfl
    | false =>
      have := lex_total h1 (by simpa using h2)
      rw [h] at this; cases this

def aboveB (l : List Itm) (w : ByteArray) : List Itm := (isort ltI l).filter fun x => !upTo w x
def nB (most : Int) : Nat := (if 1 > most then (1 : Int) else most).toNat
def batF (l : List Itm) (w : ByteArray) (most : Int) : List Itm × Bool := ((aboveB l w).take (nB most), decide (nB most < (aboveB l w).length))
theorem nB_pos (most : Int) : 0 < nB most := by unfold nB; split <;> omega
theorem nB_int (most : Int) : ((nB most : Nat) : Int) = if 1 > most then (1 : Int) else most := by unfold nB; split <;> omega
theorem aboveB_len (l : List Itm) (w : ByteArray) : (aboveB l w).length ≤ l.length := by
  have := List.length_filter_le (fun x => !upTo w x) (isort ltI l)
  rw [isort_len] at this; exact this
theorem aboveB_sort (l : List Itm) (w : ByteArray) : aboveB (isort ltI l) w = aboveB l w := by unfold aboveB; rw [isort_id (isort_up l)]
theorem aboveB_up (l : List Itm) (w : ByteArray) : Up (aboveB l w) := (isort_up l).filter _

theorem loop_batch {ρ : Type} (w : ByteArray) (n : Nat) (st : (List Itm → Option ρ) → Nat → Itm → List Itm → Option ρ) (fin : Nat → List Itm → Option ρ) (R : List Itm → Bool → Option ρ)
    (h1 : ∀ nx c x acc, upTo w x = true → st nx c x acc = nx acc) (h2 : ∀ nx c x acc, upTo w x = false → acc.length = n → st nx c x acc = R acc true)
    (h3 : ∀ nx c x acc, upTo w x = false → acc.length < n → acc.length < 1000000 → st nx c x acc = nx (acc ++ [x])) (hf : ∀ c acc, fin c acc = R acc false) :
    ∀ (l : List Itm) (c : Nat) (acc : List Itm), acc.length ≤ n → acc.length + l.length ≤ 1000000 →
      loopL st fin l c acc = R (acc ++ (l.filter fun x => !upTo w x).take (n - acc.length)) (decide (n < acc.length + (l.filter fun x => !upTo w x).length))
  | [], c, acc, ha, hl => by
    rw [loopL, hf, List.filter_nil, List.take_nil, List.append_nil, List.length_nil, decide_eq_false (by omega)]
  | x :: l, c, acc, ha, hl => by
    rw [List.length_cons] at hl
    rw [loopL]
    cases hx : upTo w x with
    | true =>
      rw [h1 _ _ _ _ hx, loop_batch w n st fin R h1 h2 h3 hf l (c + 1) acc ha (by omega), List.filter_cons_of_neg (by rw [hx]; simp)]
    | false =>
      rw [List.filter_cons_of_pos (by rw [hx]; rfl)]
      by_cases hn : acc.length = n
      · rw [h2 _ _ _ _ hx hn, hn, Nat.sub_self, List.take_zero, List.append_nil, List.length_cons, decide_eq_true (by omega)]
      · rw [h3 _ _ _ _ hx (by omega) (by omega), loop_batch w n st fin R h1 h2 h3 hf l (c + 1) _ (by simp; omega) (by simp; omega)]
        have e1 : n - acc.length = (n - (acc ++ [x]).length) + 1 := by simp; omega
        rw [e1, List.take_succ_cons, List.append_assoc, List.singleton_append]
        congr 1
        rw [List.length_append, List.length_cons, List.length_cons, List.length_nil]
        congr 1
        exact propext ⟨fun h => by omega, fun h => by omega⟩

theorem m_batch (F : Nat) (l : List Itm) (w : ByteArray) (most : Int) (h : l.length ≤ 1000) (hF : 2100 < F) : m_backfill_Batch F l w most = some (batF l w most) := by
  simp only [m_backfill_Batch]
  rw [m_byName F l (by omega) (by omega), Option.bind_some, grd_pos _ (by unfold Len; rw [isort_len]; omega)]
  have hn := nB_int most
  refine (loop_batch w (nB most) _ _ (fun a b => some (a, b)) (fun nx c x acc hx => ?_) (fun nx c x acc hx ha => ?_) (fun nx c x acc hx ha hb => ?_) (fun c acc => rfl) _ 0 [] (by simp) (by rw [isort_len]; simp; omega)).trans ?_
  · unfold upTo at hx; rw [hx, cond_true]
  · unfold upTo at hx; rw [hx, cond_false, decide_eq_true (by omega), cond_true]
  · unfold upTo at hx; rw [hx, cond_false, decide_eq_false (by omega), cond_false, grd_pos _ (App40' (by simp; omega))]
  · rw [List.nil_append, List.length_nil, Nat.sub_zero, Nat.zero_add]; rfl

theorem m_refbatch (F : Nat) (l : List Itm) (w : ByteArray) (most : Int) (h : l.length ≤ 1000) (hF : 2100 < F) : m_tholeref20_Batch F l w most = some (batF l w most) := by
  simp only [m_tholeref20_Batch]
  have hn := nB_int most
  refine (jn_at (s := ((nB most : Nat) : Int)) fun J => ?_).trans ?_
  · rw [hn]
    by_cases hm : most < 1
    · rw [decide_eq_true hm, cond_true, if_pos (by omega)]
    · rw [decide_eq_false hm, cond_false, if_neg (by omega)]
  · rw [m_sorted F l (by omega) (by omega), Option.bind_some, grd_pos _ (by unfold Len; rw [isort_len]; omega)]
    refine (loop_batch w (nB most) _ _ (fun a b => some (a, b)) (fun nx c x acc hx => ?_) (fun nx c x acc hx ha => ?_) (fun nx c x acc hx ha hb => ?_) (fun c acc => rfl) _ 0 [] (by simp) (by rw [isort_len]; simp; omega)).trans ?_
    · unfold upTo at hx; rw [hx, cond_true]
    · unfold upTo at hx; rw [hx, cond_false, show (((acc.length : Nat) : Int) == ((nB most : Nat) : Int)) = true by rw [ha]; exact beq_self_eq_true _, cond_true]
    · unfold upTo at hx; rw [hx, cond_false, show (((acc.length : Nat) : Int) == ((nB most : Nat) : Int)) = false by simp; omega, cond_false, grd_pos _ (App40' (by simp; omega))]
    · rw [List.nil_append, List.length_nil, Nat.sub_zero, Nat.zero_add]; rfl

theorem m_clone (F : Nat) (l : List Itm) (h : l.length ≤ 1000) : m_slices_Clone___api_Item_api_Item_ F l = some l := by
  simp only [m_slices_Clone___api_Item_api_Item_]
  rw [grd_pos _ (App40' (by simp; omega))]; rfl

/-- The name that a batch ends with. -/
def endB (x : List Itm) : ByteArray := (x.getD (Int.toNat (((x.length : Nat) : Int) - 1)) dS_api_Item).Name
theorem endB_at {x : List Itm} (h : x ≠ []) : ∃ A z, x = A ++ [z] ∧ endB x = z.Name := by
  obtain ⟨A, z, rfl⟩ := (List.eq_nil_or_concat x).resolve_left h
  refine ⟨A, z, List.concat_eq_append, ?_⟩
  unfold endB
  rw [List.concat_eq_append, show Int.toNat ((((A ++ [z]).length : Nat) : Int) - 1) = A.length by simp]
  simp [List.getD]

theorem next_less (l : List Itm) (c : ByteArray) (n : Nat) (hn : 0 < n) (h : aboveB l c ≠ []) : (aboveB l (endB ((aboveB l c).take n))).length < (aboveB l c).length := by
  have hne : (aboveB l c).take n ≠ [] := fun e => by
    rcases List.take_eq_nil_iff.1 e with h0 | h0
    · omega
    · exact h h0
  obtain ⟨A, z, e1, e2⟩ := endB_at hne
  have hz : z ∈ aboveB l c := List.mem_of_mem_take (i := n) (by rw [e1]; simp)
  have hzc : upTo c z = false := by
    have := (List.mem_filter.1 hz).2
    simpa using this
  rw [e2]
  have he : aboveB l z.Name = (aboveB l c).filter fun x => !upTo z.Name x := by
    unfold aboveB
    rw [List.filter_filter]
    refine List.filter_congr fun x _ => ?_
    cases h1 : upTo z.Name x with
    | true => rfl
    | false =>
      cases h2 : upTo c x with
      | false => rfl
      | true =>
        have := upTo_lt h2 hzc
        rw [upTo_of this] at h1; cases h1
  rw [he]
  refine List.length_filter_lt_length_iff_exists.2 ⟨z, hz, ?_⟩
  rw [upTo_of (ltI_irr z)]; simp

theorem next_none (l : List Itm) (c : ByteArray) (n : Nat) (h : aboveB l c ≠ []) (hn : (aboveB l c).length ≤ n) : aboveB l (endB ((aboveB l c).take n)) = [] := by
  rw [List.take_of_length_le hn]
  obtain ⟨A, z, e1, e2⟩ := endB_at h
  rw [e2]
  have hz : z ∈ aboveB l c := by rw [e1]; simp
  have hzc : upTo c z = false := by
    have := (List.mem_filter.1 hz).2
    simpa using this
  refine List.filter_eq_nil_iff.2 fun x hx => ?_
  cases h2 : upTo c x with
  | true => rw [upTo_of (upTo_lt h2 hzc)]; simp
  | false =>
    have hx2 : x ∈ aboveB l c := List.mem_filter.2 ⟨hx, by rw [h2]; rfl⟩
    have hup := aboveB_up l c
    rw [e1] at hup hx2
    rcases List.mem_append.1 hx2 with hx3 | hx3
    · rw [upTo_of ((List.pairwise_append.1 hup).2.2 x hx3 z (by simp))]; simp
    · rw [List.mem_singleton.1 hx3, upTo_of (ltI_irr z)]; simp

abbrev noName : ByteArray := ByteArray.mk #[]

theorem bind_first {ρ : Type} (l : List Itm) (hl : l.length ≤ 1000) (most : Int) {ky : Nat × ByteArray → List Itm → Option (Bool × (Nat × ByteArray))} {f : Nat × ByteArray → Option ρ} {r : Option ρ}
    (hk : aboveB l noName ≠ [] → ky (0, noName) ((aboveB l noName).take (nB most)) = some (false, (2, endB ((aboveB l noName).take (nB most)))))
    (h0 : f (0, noName) = r) (h2 : ∀ m, f (2, m) = r) : (m_backfill_Batches_1 3000 ky (0, noName) (isort ltI l) most).bind f = r := by
  have hb := m_batch 3000 (isort ltI l) noName most (by rw [isort_len]; omega) (by omega)
  simp only [m_backfill_Batches_1]
  rw [show (3000 : Nat) = 2999 + 1 from rfl, loopW]
  dsimp only
  rw [hb, Option.bind_some]
  unfold batF
  rw [aboveB_sort]
  by_cases he : aboveB l noName = []
  · rw [he, List.take_nil]
    dsimp only [jn]
    rw [show ((((([] : List Itm).length : Nat) : Int) == 0)) = true from rfl, cond_true, cond_true, Option.bind_some, h0]
  · have hne : ((aboveB l noName).take (nB most)) ≠ [] := fun e => by
      rcases List.take_eq_nil_iff.1 e with q | q
      · have := nB_pos most; omega
      · exact he q
    have hlen : ((((((aboveB l noName).take (nB most)).length : Nat) : Int) == 0)) = false := by
      have := List.length_pos_iff.2 hne
      simp only [beq_eq_false_iff_ne]; omega
    dsimp only [jn]
    rw [hlen, cond_false, m_clone _ _ (Nat.le_trans (List.length_take_le' ..) (Nat.le_trans (aboveB_len l noName) hl)), Option.bind_some, hk he, Option.bind_some]
    rw [Bool.not_false, cond_true, cond_true, Option.bind_some, h2]

theorem bind_all {ρ : Type} (l : List Itm) (hl : l.length ≤ 1000) (most : Int) {ky : Nat × ByteArray → List Itm → Option (Bool × (Nat × ByteArray))} {f : Nat × ByteArray → Option ρ} {r : Option ρ}
    (hk : ∀ c, aboveB l c ≠ [] → ky (0, c) ((aboveB l c).take (nB most)) = some (true, (0, endB ((aboveB l c).take (nB most)))))
    (hf : ∀ m, aboveB l m = [] → f (0, m) = r) : (m_backfill_Batches_1 3000 ky (0, noName) (isort ltI l) most).bind f = r := by
  have hb := fun c => m_batch 3000 (isort ltI l) c most (by rw [isort_len]; omega) (by omega)
  simp only [m_backfill_Batches_1]
  generalize hst : (fun (nx78 : ByteArray × (Nat × ByteArray) → Option (Nat × ByteArray)) (s86 : ByteArray × (Nat × ByteArray)) => _) = st
  have key : ∀ (G : Nat) (c : ByteArray), (aboveB l c).length < G → ∃ m, aboveB l m = [] ∧ loopW st G (c, (0, c)) = some (0, m) := by
    intro G
    induction G with
    | zero => intro c h; omega
    | succ G ih =>
      intro c hc
      rw [loopW, ← hst]
      dsimp only
      rw [hb c, Option.bind_some]
      unfold batF
      rw [aboveB_sort]
      by_cases he : aboveB l c = []
      · refine ⟨c, he, ?_⟩
        rw [he, List.take_nil]
        dsimp only [jn]
        rw [show ((((([] : List Itm).length : Nat) : Int) == 0)) = true from rfl, cond_true, cond_true]
      · have hne : ((aboveB l c).take (nB most)) ≠ [] := fun e => by
          rcases List.take_eq_nil_iff.1 e with q | q
          · have := nB_pos most; omega
          · exact he q
        have hpos := List.length_pos_iff.2 hne
        have hle : ((aboveB l c).take (nB most)).length ≤ 1000 := Nat.le_trans (List.length_take_le' ..) (Nat.le_trans (aboveB_len l c) hl)
        have hlen : ((((((aboveB l c).take (nB most)).length : Nat) : Int) == 0)) = false := by
          simp only [beq_eq_false_iff_ne]; omega
        by_cases hm : nB most < (aboveB l c).length
        · obtain ⟨m, h1, h2⟩ := ih (endB ((aboveB l c).take (nB most))) (by have := next_less l c (nB most) (nB_pos most) he; omega)
          refine ⟨m, h1, ?_⟩
          rw [← h2, ← hst]
          dsimp only [jn]
          rw [hlen, cond_false, m_clone _ _ hle, Option.bind_some, hk c he, Option.bind_some, Bool.not_true, cond_false, decide_eq_true hm, Bool.not_true, cond_false]
          rw [grd_pos _ (by unfold I64; omega), grd_pos _ (by unfold Ix; omega)]
          rfl
        · refine ⟨_, next_none l c (nB most) he (by omega), ?_⟩
          dsimp only [jn]
          rw [hlen, cond_false, m_clone _ _ hle, Option.bind_some, hk c he, Option.bind_some, Bool.not_true, cond_false, decide_eq_false hm, Bool.not_false, cond_true]
  obtain ⟨m, h1, h2⟩ := key 3000 noName (by have := aboveB_len l noName; omega)
  rw [h2, Option.bind_some, hf m h1]

theorem loop_clear {ρ : Type} (r : Option ρ) (st : (List Itm → Option ρ) → Nat → List Itm → Option ρ) (fin : Nat → List Itm → Option ρ)
    (hs : ∀ nx c (L : List Itm), c < L.length → st nx c L = nx (L.set c (S_api_Item.mk (ByteArray.mk #[]) (S_api_Version.mk 0 0) 0))) (hf : ∀ c L, fin c L = r) :
    ∀ (n c : Nat) (L : List Itm), c + n ≤ L.length → loopC st fin n c L = r
  | 0, c, L, h => by rw [loopC, hf]
  | n + 1, c, L, h => by
    rw [loopC, hs _ _ _ (by omega)]
    exact loop_clear r st fin hs hf n (c + 1) _ (by rw [List.length_set]; omega)
theorem k_step (l : List Itm) (hl : l.length ≤ 400) (most : Int) (c : ByteArray) (he : aboveB l c ≠ []) : ((aboveB l c).take (nB most)).length ≤ 400 ∧ 0 < ((aboveB l c).take (nB most)).length := by
  refine ⟨Nat.le_trans (List.length_take_le' ..) (Nat.le_trans (aboveB_len l c) hl), ?_⟩
  refine List.length_pos_iff.2 fun e => ?_
  rcases List.take_eq_nil_iff.1 e with q | q
  · have := nB_pos most; omega
  · exact he q

theorem law_batches (l : List Itm) (w : ByteArray) (most : Int) (hl : l.length ≤ 1048576) : m_tholelaw20_BackfillBatches 3000 l w most = some true := by
  simp only [m_tholelaw20_BackfillBatches, m_tholelaw20_far]
  rw [Option.bind_some]
  by_cases h : l.length ≤ 400
  · rw [decide_eq_false (by omega), cond_false, grd_pos _ (App40' (by simp; omega)), List.nil_append]
    have hb := fun c => m_refbatch 3000 l c most (by omega) (by omega)
    have hs := fun (x : List Itm) (hx : x.length ≤ 400) => m_items_self 3000 x (by omega)
    have hbl : (batF l w most).1.length ≤ 400 := Nat.le_trans (List.length_take_le' ..) (Nat.le_trans (aboveB_len l w) h)
    rw [m_batch 3000 l w most (by omega) (by omega), Option.bind_some, hb, Option.bind_some]
    refine (jn_at (s := false) fun J => ?_).trans ?_
    · rw [hs _ hbl, Option.bind_some, Bool.not_true, cond_false, beq_self_eq_true, Bool.not_true, cond_false, hs _ h, Option.bind_some, Bool.not_true]
    · rw [cond_false]
      simp only [m_backfill_Batches]
      rw [m_byName 3000 l (by omega) (by omega), Option.bind_some, Option.bind_some]
      refine bind_first l (by omega) most (fun he => ?_) ?_ (fun m => ?_)
      · obtain ⟨k1, k2⟩ := k_step l h most noName he
        dsimp only
        rw [grd_pos _ rfl, hb, Option.bind_some]
        refine (jn_at (s := false) fun J => ?_).trans ?_
        · rw [show ((((((aboveB l noName).take (nB most)).length : Nat) : Int) == 0)) = false by simp only [beq_eq_false_iff_ne]; omega, cond_false]
          show (m_tholelaw20_items 3000 ((aboveB l noName).take (nB most)) ((aboveB l noName).take (nB most))).bind _ = _
          rw [hs _ k1, Option.bind_some, Bool.not_true]
        · rw [cond_false, grd_pos _ (by unfold I64; omega), grd_pos _ (by unfold Ix; omega), grd_pos _ (by omega)]
          exact loop_clear _ _ _ (fun nx c L hc => by rw [grd_pos _ hc]) (fun c L => rfl) _ _ _ (by omega)
      · rw [show ((0 : Nat) == 0) = true from rfl, cond_true, hb, Option.bind_some]
        refine bind_all l (by omega) most (fun c he => ?_) (fun m hm => ?_)
        · obtain ⟨k1, k2⟩ := k_step l h most c he
          dsimp only
          rw [grd_pos _ rfl, hb, Option.bind_some]
          refine (jn_at (s := false) fun J => ?_).trans ?_
          · rw [show ((((((aboveB l c).take (nB most)).length : Nat) : Int) == 0)) = false by simp only [beq_eq_false_iff_ne]; omega, cond_false]
            show (m_tholelaw20_items 3000 ((aboveB l c).take (nB most)) ((aboveB l c).take (nB most))).bind _ = _
            rw [hs _ k1, Option.bind_some, Bool.not_true]
          · rw [cond_false, grd_pos _ (by unfold I64; omega), grd_pos _ (by unfold Ix; omega), grd_pos _ (by omega)]
            exact loop_clear _ _ _ (fun nx c L hc => by rw [grd_pos _ hc]) (fun c L => rfl) _ _ _ (by omega)
        · rw [show ((0 : Nat) == 0) = true from rfl, cond_true, hb, Option.bind_some]
          have e : (batF l m most).1 = [] := by unfold batF; rw [hm, List.take_nil]
          rw [e, List.length_nil, decide_eq_false (by omega), cond_false, hs _ h, Option.bind_some, cond_true, awake20r, Option.bind_some]
      · rw [show ((2 : Nat) == 0) = false from rfl, cond_false, show ((2 : Nat) == 1) = false from rfl, cond_false, hb, Option.bind_some]
        refine bind_all l (by omega) most (fun c he => ?_) (fun m hm => ?_)
        · obtain ⟨k1, k2⟩ := k_step l h most c he
          dsimp only
          rw [grd_pos _ rfl, hb, Option.bind_some]
          refine (jn_at (s := false) fun J => ?_).trans ?_
          · rw [show ((((((aboveB l c).take (nB most)).length : Nat) : Int) == 0)) = false by simp only [beq_eq_false_iff_ne]; omega, cond_false]
            show (m_tholelaw20_items 3000 ((aboveB l c).take (nB most)) ((aboveB l c).take (nB most))).bind _ = _
            rw [hs _ k1, Option.bind_some, Bool.not_true]
          · rw [cond_false, grd_pos _ (by unfold I64; omega), grd_pos _ (by unfold Ix; omega), grd_pos _ (by omega)]
            exact loop_clear _ _ _ (fun nx c L hc => by rw [grd_pos _ hc]) (fun c L => rfl) _ _ _ (by omega)
        · rw [show ((0 : Nat) == 0) = true from rfl, cond_true, hb, Option.bind_some]
          have e : (batF l m most).1 = [] := by unfold batF; rw [hm, List.take_nil]
          rw [e, List.length_nil, decide_eq_false (by omega), cond_false, hs _ h, Option.bind_some, cond_true, awake20r, Option.bind_some]
  · rw [decide_eq_true (by omega), cond_true, awake20r, Option.bind_some]
end Go.Proofs.Yticlccnajfjdeaa
