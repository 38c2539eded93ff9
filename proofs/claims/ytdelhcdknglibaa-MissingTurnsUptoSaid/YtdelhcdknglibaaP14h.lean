/-
  CHAPTER 14: plain facts on the models: what is to be fetched and dropped.
-/
import Derived.Test.YtdelhcdknglibaaP14g
set_option linter.unusedVariables false
set_option linter.unusedSimpArgs false
set_option maxRecDepth 100000
namespace Go.Proofs.Ytdelhcdknglibaa
open Go Go.RowKit Sx

theorem bl_irr (a : List UInt8) : Op.bytesLess a a = false := by
  cases h : Op.bytesLess a a with
  | false => rfl
  | true => exact absurd rfl (bl_ne h)
theorem bl_le_lt {x y z : List UInt8} (h1 : Op.bytesLess y x = false) (h2 : Op.bytesLess y z = true) : Op.bytesLess x z = true := by
  cases h : Op.bytesLess x z with
  | true => rfl
  | false => rw [bl_tr z x y h h1] at h2; cases h2

/-! ### Sorted, and of equal ones the first -/
theorem lcu_succ (d : Array (List UInt8)) (m : Nat) : ((List.range (m + 1)).filter (lkeeps d)).map (d[·]!) = ((List.range m).filter (lkeeps d)).map (d[·]!) ++ (if lkeeps d m then [d[m]!] else []) := by
  rw [List.range_succ, List.filter_append, List.map_append]
  congr 1
  by_cases h : lkeeps d m <;> simp [h]
theorem lcu_spec (d : Array (List UInt8)) (hd : ∀ i j, i < j → j < d.size → Op.bytesLess d[j]! d[i]! = false) : ∀ m, m ≤ d.size →
    (((List.range m).filter (lkeeps d)).map (d[·]!)).Pairwise (fun x y => Op.bytesLess x y = true) ∧ (∀ x ∈ ((List.range m).filter (lkeeps d)).map (d[·]!), ∃ j, j < m ∧ x = d[j]!) ∧ ∀ j, j < m → d[j]! ∈ ((List.range m).filter (lkeeps d)).map (d[·]!)
  | 0, _ => ⟨by simp, by simp, fun j hj => by omega⟩
  | m + 1, h => by
    obtain ⟨h1, h2, h3⟩ := lcu_spec d hd m (by omega)
    rw [lcu_succ]
    cases hk : lkeeps d m with
    | false =>
      simp only [Bool.false_eq_true, if_false, List.append_nil]
      refine ⟨h1, fun x hx => ?_, fun j hj => ?_⟩
      · obtain ⟨j, h4, h5⟩ := h2 x hx
        exact ⟨j, by omega, h5⟩
      · by_cases hjm : j < m
        · exact h3 j hjm
        · have : j = m := by omega
          subst this
          have hk := of_decide_eq_false hk
          have h0 : j ≠ 0 := fun e => hk (.inl e)
          have he : d[j]! = d[j - 1]! := Classical.byContradiction fun e => hk (.inr e)
          rw [he]
          exact h3 _ (by omega)
    | true =>
      simp only [if_true]
      refine ⟨List.pairwise_append.2 ⟨h1, List.pairwise_singleton _ _, fun x hx y hy => ?_⟩, fun x hx => ?_, fun j hj => ?_⟩
      · rw [List.mem_singleton] at hy
        subst hy
        obtain ⟨j, h4, rfl⟩ := h2 x hx
        have hk := of_decide_eq_true hk
        have hne : d[m]! ≠ d[m - 1]! := hk.resolve_left (by omega)
        have ha : Op.bytesLess d[m - 1]! d[j]! = false := by
          by_cases hj : j = m - 1
          · rw [hj]; exact bl_irr _
          · exact hd j (m - 1) (by omega) (by omega)
        exact bl_le_lt ha (bl_of (hd (m - 1) m (by omega) (by omega)) hne.symm)
      · rcases List.mem_append.1 hx with hx | hx
        · obtain ⟨j, h4, h5⟩ := h2 x hx
          exact ⟨j, by omega, h5⟩
        · exact ⟨m, by omega, List.mem_singleton.1 hx⟩
      · by_cases hjm : j < m
        · exact List.mem_append.2 (.inl (h3 j hjm))
        · have : j = m := by omega
          subst this
          exact List.mem_append.2 (.inr (by simp))

theorem lcompact_spec (Z : List (List UInt8)) (hZ : Z.Pairwise (fun x y => Op.bytesLess y x = false)) : (lcompact Z).Pairwise (fun x y => Op.bytesLess x y = true) ∧ ∀ x, x ∈ lcompact Z ↔ x ∈ Z := by
  have hg : ∀ j, j < Z.length → Z.toArray[j]! = Z.getD j [] := fun j hj => by
    rw [getElem!_pos _ j (by simpa using hj)]; simp [List.getD, List.getElem?_eq_getElem hj]
  have hg2 : ∀ j (hj : j < Z.length), Z.toArray[j]! = Z[j] := fun j hj => by
    rw [getElem!_pos _ j (by simpa using hj)]; simp
  obtain ⟨h1, h2, h3⟩ := lcu_spec Z.toArray (fun i j hij hj => by
    simp only [List.size_toArray] at hj
    rw [hg2 j hj, hg2 i (by omega)]
    exact List.pairwise_iff_getElem.1 hZ i j (by omega) hj hij) Z.length (by simp)
  refine ⟨h1, fun x => ⟨fun hx => ?_, fun hx => ?_⟩⟩
  · obtain ⟨j, hj, rfl⟩ := h2 x hx
    rw [hg2 j hj]; exact List.getElem_mem _
  · obtain ⟨j, hj, rfl⟩ := List.getElem_of_mem hx
    rw [← hg2 j hj]; exact h3 j hj

theorem sc_spec (l : List ByteArray) : Ri kN (scompact (ssort l)) ∧ ∀ n, n ∈ scompact (ssort l) ↔ n ∈ l := by
  have e1 : (ssort l).map (fun s => s.data.toList) = (l.map fun s => s.data.toList).mergeSort fun x y => decide (x ≤ y) := by
    unfold ssort
    rw [List.map_map]
    exact (List.map_congr_left (fun x _ => by simp)).trans (List.map_id _)
  have hs : ((l.map fun s => s.data.toList).mergeSort fun x y => decide (x ≤ y)).Pairwise (fun x y => Op.bytesLess y x = false) := by
    refine (List.pairwise_mergeSort (le := fun x y : List UInt8 => decide (x ≤ y)) (fun a b c h1 h2 => ?_) (fun a b => ?_) _).imp (fun {a b} h => ?_)
    · exact decide_eq_true (List.le_trans (of_decide_eq_true h1) (of_decide_eq_true h2))
    · simpa using List.le_total a b
    · rw [lex_lt]; exact decide_eq_false (List.not_lt.2 (of_decide_eq_true h))
  obtain ⟨h1, h2⟩ := lcompact_spec _ hs
  unfold scompact
  rw [e1]
  refine ⟨?_, fun n => ?_⟩
  · unfold Ri
    rw [List.pairwise_map]
    refine h1.imp (fun {a b} h => ?_)
    unfold kN
    rw [ByteArray.toList_eq, ByteArray.toList_eq]
    simpa using h
  · rw [List.mem_map]
    constructor
    · rintro ⟨x, hx, rfl⟩
      have := List.mem_mergeSort.1 ((h2 x).1 hx)
      obtain ⟨s, hs, rfl⟩ := List.mem_map.1 this
      simpa using hs
    · intro hn
      exact ⟨n.data.toList, (h2 _).2 (List.mem_mergeSort.2 (List.mem_map.2 ⟨n, hn, rfl⟩)), by simp⟩

/-! ### Touched -/
theorem touches_only : ∀ (l : List Ent13) (acc : List ByteArray) (n : ByteArray), n ∈ l.foldl touch acc → n ∈ acc ∨ ∃ e ∈ l, e.Errno = 0 ∧ e.Name = n
  | [], acc, n, h => .inl h
  | x :: l, acc, n, h => by
    rcases touches_only l (touch acc x) n h with h1 | ⟨e, h1, h2⟩
    · unfold touch at h1
      cases he : x.Errno == 0 with
      | false => rw [he] at h1; exact .inl h1
      | true =>
        rw [he, cond_true, mem_putF] at h1
        rcases h1 with h1 | h1
        · exact .inr ⟨x, by simp, by simpa using he, h1.symm⟩
        · exact .inl h1.1
    · exact .inr ⟨e, List.mem_cons_of_mem _ h1, h2⟩
def gName (e : Ent13) : List ByteArray := bif e.Errno == 0 then [e.Name] else []
theorem TT_sort (a b : Stt) : scompact (ssort ((divF a b ++ lackF a b).flatMap gName)) = TT a b := by
  obtain ⟨h1, h2⟩ := sc_spec ((divF a b ++ lackF a b).flatMap gName)
  refine ri_same kN h1 (TT_ri a b) (fun n => ?_)
  rw [h2, List.mem_flatMap]
  constructor
  · rintro ⟨e, he, hn⟩
    obtain ⟨q1, rfl⟩ := mem_bif.1 hn
    exact TT_mem a b (List.mem_append.1 he) (by simpa using q1)
  · intro h
    rcases touches_only _ [] n h with h1 | ⟨e, q1, q2, q3⟩
    · cases h1
    · exact ⟨e, q1, mem_bif.2 ⟨by simpa using q2, q3.symm⟩⟩
theorem flat_len {α β : Type} (f : α → List β) (h : ∀ x, (f x).length ≤ 1) : ∀ l : List α, (l.flatMap f).length ≤ l.length
  | [] => by simp
  | x :: l => by
    have := flat_len f h l
    have := h x
    rw [List.flatMap_cons, List.length_append, List.length_cons]; omega
theorem m_ctouched (F : Nat) (a b : Stt) (ha : a.log.length ≤ 900) (hb : b.log.length ≤ 900) : m_missing_Touched F a.les a.tail a.log a.lasts a.items b.les b.tail b.log b.lasts b.items = some (TT a b) := by
  have h2 := divF_len a b
  have h3 := lackF_len a b
  simp only [m_missing_Touched]
  rw [m_div F a b (by omega) (by omega), Option.bind_some, m_lack F a b (by omega) (by omega), Option.bind_some, grd_pos _ (A64 (by omega)), grd_pos _ (by unfold Len; rw [List.length_append]; omega)]
  refine (loop_gather gName (fun x => bif_len _ _) _ _ (fun acc => grd (acc.length < 4611686018427387904) (grd ((ssort acc).length < 4611686018427387904) (some (scompact (ssort acc))))) (fun _ _ => True) (fun _ _ _ _ => trivial) (fun nx c x l acc hc _ => ?_) (fun c acc => rfl) (divF a b ++ lackF a b) 0 [] (by rw [List.length_append, List.length_nil]; omega) trivial).trans ?_
  · unfold gName
    cases x.Errno == 0 with
    | true => simp only [cond_true]; rw [grd_pos _ (A16 (by simp only [List.length_cons, List.length_nil]; omega))]
    | false => simp only [cond_false, List.append_nil]
  · have := flat_len gName (fun x => bif_len _ _) (divF a b ++ lackF a b)
    rw [List.length_append] at this
    rw [List.nil_append, grd_pos _ (by omega), grd_pos _ (by rw [sort_length]; omega), TT_sort]

/-! ### The plan by logs -/
def dPull (own want : List Itm) (n : ByteArray) : List Itm :=
  bif (findF want n).2 && (!(findF own n).2 || (!(S_api_Version.beq (findF own n).1.Version (findF want n).1.Version) || ((findF own n).1.Crc != (findF want n).1.Crc))) then [(findF want n).1] else []
def dDrop (own want : List Itm) (n : ByteArray) : List ByteArray := bif !(findF want n).2 && (findF own n).2 then [n] else []
def DD (a b : Stt) : List Itm × List ByteArray × Bool := bif (commonF a b).2 then ((TT a b).flatMap (dPull a.items b.items), (TT a b).flatMap (dDrop a.items b.items), true) else ([], [], false)
theorem pull_same (own want : List Itm) (n : ByteArray) : ((findF want n).2 && (!(findF own n).2 || !(S_api_Item.beq (findF own n).1 (findF want n).1))) =
    ((findF want n).2 && (!(findF own n).2 || (!(S_api_Version.beq (findF own n).1.Version (findF want n).1.Version) || ((findF own n).1.Crc != (findF want n).1.Crc)))) := by
  cases h1 : (findF want n).2 with
  | false => rfl
  | true =>
    cases h2 : (findF own n).2 with
    | false => rfl
    | true =>
      have e1 := (findF_yes h1).2
      have e2 := (findF_yes h2).2
      unfold S_api_Item.beq
      rw [e1, e2, show (n == n) = true from (str_beq n n).2 rfl]
      cases S_api_Version.beq (findF own n).1.Version (findF want n).1.Version <;> simp [bne]
theorem m_refdiff (F : Nat) (a b : Stt) (ha : a.log.length ≤ 900) (hb : b.log.length ≤ 900) (ha' : a.items.length ≤ 900) (hb' : b.items.length ≤ 900) : m_tholeref14_Diff F a.les a.tail a.log a.lasts a.items b.les b.tail b.log b.lasts b.items = some (DD a b) := by
  simp only [m_tholeref14_Diff, DD]
  rw [m_refcommon F a b (by omega) (by omega), Option.bind_some]
  cases (commonF a b).2 with
  | false => rfl
  | true =>
    have hT := TT_len a b
    rw [Bool.not_true, cond_false, m_touched F a b ha hb, Option.bind_some, grd_pos _ (by unfold Len; omega)]
    refine (loop_gather2 (dPull a.items b.items) (dDrop a.items b.items) (fun x => bif_len _ _) (fun x => bif_len _ _) _ _ (fun p q => some (p, q, true)) (fun nx c x p q hp hq => ?_) (fun c p q => rfl) (TT a b) 0 [] [] (by simp; omega) (by simp; omega)).trans rfl
    dsimp only
    rw [m_reffind F a x (by omega), Option.bind_some, m_reffind F b x (by omega), Option.bind_some]
    unfold dPull dDrop
    simp only [jn]
    cases (findF b.items x).2 <;> cases (findF a.items x).2 <;> cases S_api_Version.beq (findF a.items x).1.Version (findF b.items x).1.Version <;> cases ((findF a.items x).1.Crc != (findF b.items x).1.Crc) <;> simp only [Bool.not_true, Bool.not_false, cond_true, cond_false, Bool.true_and, Bool.false_and, Bool.or_true, Bool.or_false, Bool.true_or, Bool.false_or, List.append_nil] <;> (repeat rw [grd_pos _ (by unfold App; simp only [List.length_cons, List.length_nil]; omega)])
theorem m_cdiff (F : Nat) (a b : Stt) (ha : a.log.length ≤ 900) (hb : b.log.length ≤ 900) (ha' : a.items.length ≤ 900) (hb' : b.items.length ≤ 900) : m_missing_Diff F a.les a.tail a.log a.lasts a.items b.les b.tail b.log b.lasts b.items = some (DD a b) := by
  simp only [m_missing_Diff, DD]
  rw [m_common F a b (by omega) (by omega), Option.bind_some]
  cases (commonF a b).2 with
  | false => rfl
  | true =>
    have hT := TT_len a b
    rw [Bool.not_true, cond_false, m_ctouched F a b ha hb, Option.bind_some, grd_pos _ (by unfold Len; omega)]
    refine (loop_gather2 (dPull a.items b.items) (dDrop a.items b.items) (fun x => bif_len _ _) (fun x => bif_len _ _) _ _ (fun p q => some (p, q, true)) (fun nx c x p q hp hq => ?_) (fun c p q => rfl) (TT a b) 0 [] [] (by simp; omega) (by simp; omega)).trans rfl
    dsimp only
    rw [m_find F b x (by omega), Option.bind_some, m_find F a x (by omega), Option.bind_some]
    unfold dPull dDrop
    rw [← pull_same]
    simp only [jn]
    cases (findF b.items x).2 <;> cases (findF a.items x).2 <;> cases S_api_Item.beq (findF a.items x).1 (findF b.items x).1 <;> simp only [Bool.not_true, Bool.not_false, cond_true, cond_false, Bool.true_and, Bool.false_and, Bool.or_true, Bool.or_false, Bool.true_or, Bool.false_or, List.append_nil] <;> (repeat rw [grd_pos _ (by unfold App; simp only [List.length_cons, List.length_nil]; omega)])

theorem awake14 (n : Nat) : m_tholelaw14_awake (n + 1000) = some true := by
  unfold m_tholelaw14_awake
  have h := (m_cdiff (n + 1000) ⟨0, S_api_Version.mk 0 0, [(S_api_Entry.mk (S_api_Version.mk 1 1) false 0 (ByteArray.mk #[97]) 0 0), (S_api_Entry.mk (S_api_Version.mk 1 2) false 0 (ByteArray.mk #[98]) 0 0)], [], [(S_api_Item.mk (ByteArray.mk #[97]) (S_api_Version.mk 1 1) 0), (S_api_Item.mk (ByteArray.mk #[98]) (S_api_Version.mk 1 2) 0)]⟩ ⟨0, S_api_Version.mk 0 0, [(S_api_Entry.mk (S_api_Version.mk 1 1) false 0 (ByteArray.mk #[97]) 0 0), (S_api_Entry.mk (S_api_Version.mk 3 1) false 0 (ByteArray.mk #[99]) 0 0)], [], [(S_api_Item.mk (ByteArray.mk #[97]) (S_api_Version.mk 1 1) 0), (S_api_Item.mk (ByteArray.mk #[99]) (S_api_Version.mk 3 1) 0)]⟩ (by decide) (by decide) (by decide) (by decide)).trans
    (m_refdiff (n + 1000) _ _ (by decide) (by decide) (by decide) (by decide)).symm
  dsimp only at h
  rw [h]
  refine Eq.symm ?_
  refine Eq.symm ?_
  kernel_rfl

end Go.Proofs.Ytdelhcdknglibaa
