/-
  CHAPTER 18, PrimaryReads: the beginning, and steps that do not count.
-/
import Derived.Test.YtjnbkhnebmlilaaP18rb
set_option linter.unusedVariables false
set_option linter.unusedSimpArgs false
set_option maxRecDepth 100000
namespace Go.Proofs.Ytjnbkhnebmlilaa
open Go Go.RowKit Sx

section
variable (F : Nat) (pool seed epoch self boot c6 c7 c8 : Int) (l9 : List S_api_Entry) (l10 : List S_api_Last) (l11 : List S_api_Item)

theorem m_step6 (rn cks : Int) (o left : List Int) (k : Int) (hk : k ∈ left) (h : left.length ≤ 1000) (m : S_api_Msg_n) (hm : m = rep pool seed epoch self 1 k) :
    m___primary_Machine__Step_6 F pool seed epoch self boot o c6 c7 c8 l9 l10 l11 rn 2 left cks m.c0 m.c1 m.c2 m.c3 m.c4 m.c5 m.c6 m.c7 m.c8 m.c9 m.c10 m.c11 m.c15 m.c16 m.c17 m.c18 m.c19 m.c20 m.c21 m.c22 m.c23 m.c27 m.c28 m.c29 m.c30 m.c31 m.c32 m.c33 m.c34 m.c35 m.c36 m.c38 m.c39 m.c41 m.c42 m.c45 = some () := by
  subst hm
  obtain ⟨i, hi, e⟩ := m_index F left k h hk
  unfold rep
  dsimp only
  rw [m___primary_Machine__Step_6, beq_node, beq_pg, grd_pos _ (by first | rfl | decide), grd_pos _ (by first | rfl | decide), grd_pos _ (by first | rfl | decide), grd_pos _ (by first | rfl | decide), grd_pos _ (by first | rfl | decide), m___primary_Machine__acked_3, bne_self_eq_false, grd_pos _ (by first | rfl | decide), grd_pos _ (by first | rfl | decide), e, Option.bind_some, grd_pos _ (by first | rfl | decide), grd_pos _ (by first | rfl | decide), grd_pos _ (decide_eq_false (by omega)), grd_pos _ (by first | rfl | decide), Option.bind_some]

theorem m_step8 (cks q : Int) (hI : I64 (cks + 1)) (hn : l11.length ≤ 1048576) : m___primary_Machine__Step_8 F pool seed epoch self boot c6 c7 c8 l9 l10 l11 cks q = some (l11.map S_api_Item.Name, cks + 1) := by
  rw [m___primary_Machine__Step_8, m___primary_Machine__request_4, m_slices_ContainsFunc___api_Msg_api_Msg__2, m_slices_IndexFunc___api_Msg_api_Msg__2, Option.bind_some, Option.bind_some, m_slices_Clone___byte_byte__2, Option.bind_some, m___primary_Machine__begin_6, m___primary_Machine__read_2, grd_pos _ hI, m_slices_Clone___int_int__3, Option.bind_some, m___primary_Machine__done_5, grd_pos _ (by unfold Len; omega)]
  rw [loop_map S_api_Item.Name 2000000 (fun nx c x acc hacc => by rw [grd_pos _ (App.of (by simp <;> omega) (by omega))]) l11 0 [] (by simp; omega)]
  rw [m___primary_Machine__answer_3, m___primary_Machine__to_5, Option.bind_some, Option.bind_some, List.nil_append]
  rfl
end

/-- No two of the first ones are the same. -/
def Apart (l : List Int) (c : Nat) : Prop := ∀ i, i < c → ∀ k, k < i → l.getD k 0 ≠ l.getD i 0

theorem m_twice (F : Nat) (l : List Int) (h : l.length ≤ 1048576) : ∃ b, m_tholelaw18_twice F l = some b ∧ (b = false → Apart l l.length ∧ l.length ≤ 20) := by
  rw [m_tholelaw18_twice, grd_pos _ (by unfold Len; omega)]
  suffices H : ∀ (r : List Int) (c : Nat), l.drop c = r → c + r.length = l.length → Apart l c → ∃ b, loopL (fun (nx93 : Unit → Option (Bool)) (v8_1 : Nat) (x52 : Int) (_ : Unit) => grd (((v8_1 : Nat) : Int) ≤ 9223372036854775807) (loopC (fun (nx83 : Unit → Option (Bool)) (v5_4 : Nat) (_ : Unit) => grd (v5_4 < l.length) ((bif (l.getD v5_4 0) == x52 then some true else nx83 ()))) (fun (v5_4 : Nat) (_ : Unit) => nx93 ()) (Int.toNat (((v8_1 : Nat) : Int) - ((0 : Nat) : Int))) 0 ())) (fun (v8_1 : Nat) (_ : Unit) => some (decide (((l.length : Nat) : Int) > 20))) r c () = some b ∧ (b = false → Apart l l.length ∧ l.length ≤ 20) from H l 0 rfl (by omega) (fun i hi => by omega)
  intro r
  induction r with
  | nil =>
    intro c hr hc ha
    refine ⟨_, rfl, fun hb => ⟨?_, ?_⟩⟩
    · rw [← show c = l.length by simpa using hc]; exact ha
    · have := of_decide_eq_false hb; omega
  | cons x r ih =>
    intro c hr hc ha
    rw [List.length_cons] at hc
    have hx : l.getD c 0 = x := by
      have := congrArg (fun q => q.getD 0 0) hr
      simpa [List.getD_eq_getElem?_getD, List.getElem?_drop] using this
    have hd : l.drop (c + 1) = r := by
      have := congrArg List.tail hr
      simpa [List.tail_drop] using this
    rw [loopL, grd_pos _ (by omega), show (((c : Nat) : Int) - ((0 : Nat) : Int)).toNat = c by omega]
    have inner : ∀ (n k : Nat) (nx : Unit → Option Bool), k + n = c → (∀ j, j < k → l.getD j 0 ≠ x) →
        loopC (fun (nx83 : Unit → Option (Bool)) (v5_4 : Nat) (_ : Unit) => grd (v5_4 < l.length) ((bif (l.getD v5_4 0) == x then some true else nx83 ()))) (fun (v5_4 : Nat) (_ : Unit) => nx ()) n k () = some true ∨
        (loopC (fun (nx83 : Unit → Option (Bool)) (v5_4 : Nat) (_ : Unit) => grd (v5_4 < l.length) ((bif (l.getD v5_4 0) == x then some true else nx83 ()))) (fun (v5_4 : Nat) (_ : Unit) => nx ()) n k () = nx () ∧ ∀ j, j < c → l.getD j 0 ≠ x) := by
      intro n
      induction n with
      | zero => intro k nx hk hj; exact .inr ⟨rfl, fun j hjc => hj j (by omega)⟩
      | succ n ihn =>
        intro k nx hk hj
        rw [loopC, grd_pos _ (by omega)]
        by_cases hkx : l.getD k 0 = x
        · rw [beq_iff_eq.2 hkx, cond_true]; exact .inl rfl
        · rw [beq_eq_false_iff_ne.2 hkx, cond_false]
          exact ihn (k + 1) nx (by omega) (fun j hjk => by
            by_cases hjk' : j = k
            · subst hjk'; exact hkx
            · exact hj j (by omega))
    rcases inner c 0 _ (by omega) (fun j hj => by omega) with e | ⟨e, hn⟩
    · rw [e]; exact ⟨true, rfl, fun h => by cases h⟩
    · rw [e]
      refine ih (c + 1) hd (by omega) (fun i hi k hk => ?_)
      by_cases hic : i = c
      · subst hic; rw [hx]; exact hn k hk
      · exact ha i (by omega) k hk

theorem m_index' (F : Nat) (l : List Int) (k : Int) (h : l.length ≤ 1048576) : ∃ i : Int, m_slices_Index___int_int__3 F l k = some i ∧ (0 ≤ i → k ∈ l) := by
  rw [m_slices_Index___int_int__3, grd_pos _ (by unfold Len; omega)]
  suffices H : ∀ (l : List Int) (c : Nat), ∃ i : Int, loopL (fun (nx32 : Unit → Option (Int)) (v8_1 : Nat) (x22 : Int) (_ : Unit) => (bif k == x22 then some ((v8_1 : Nat) : Int) else nx32 ())) (fun (v8_1 : Nat) (_ : Unit) => some (-1)) l c () = some i ∧ (0 ≤ i → k ∈ l) from H l 0
  intro l
  induction l with
  | nil => intro c; exact ⟨-1, rfl, fun h => by omega⟩
  | cons x l ih =>
    intro c
    rw [loopL]
    by_cases hx : k = x
    · subst hx; rw [beq_self_eq_true, cond_true]; exact ⟨_, rfl, fun _ => by simp⟩
    · rw [beq_eq_false_iff_ne.2 hx, cond_false]
      obtain ⟨i, e, h⟩ := ih (c + 1)
      exact ⟨i, e, fun h0 => List.mem_cons.2 (.inr (h h0))⟩

theorem loop_filter {ρ : Type} (p : Int → Bool) {st : (List Int → Option ρ) → Nat → Int → List Int → Option ρ} {fin : Nat → List Int → Option ρ} (N : Nat) (hst : ∀ nx c x acc, acc.length < N → st nx c x acc = if p x then nx (acc ++ [x]) else nx acc) :
    ∀ (l : List Int) (c : Nat) (acc : List Int), acc.length + l.length ≤ N → loopL st fin l c acc = fin (c + l.length) (acc ++ l.filter p)
  | [], c, acc, _ => by simp [loopL]
  | x :: l, c, acc, h => by
    rw [List.length_cons] at h
    rw [loopL, hst _ _ _ _ (by omega)]
    by_cases hx : p x = true
    · rw [if_pos hx, loop_filter p N hst l (c + 1) (acc ++ [x]) (by simp; omega), List.filter_cons_of_pos hx, List.length_cons, List.append_assoc, List.singleton_append, show c + 1 + l.length = c + (l.length + 1) by omega]
    · rw [if_neg hx, loop_filter p N hst l (c + 1) acc (by omega), List.filter_cons_of_neg hx, List.length_cons, show c + 1 + l.length = c + (l.length + 1) by omega]

theorem m_new (F : Nat) (a0 a1 ep self boot : Int) (act : List Int) (s : Stt) (ha : act.length ≤ 1048576) (hs : s.Small 33554432) (hn : s.Names) :
    m_primary_New_2 F a0 a1 ep self boot act s.les s.tail.Epoch s.tail.N s.log s.lasts s.items = some (0, (), ([], 0, 0, 0, [], [], []), (0, 0, 0, [], [], [])) ∨
    (self ∈ act ∧ ((act.filter (fun x => x != self) ≠ [] ∧ m_primary_New_2 F a0 a1 ep self boot act s.les s.tail.Epoch s.tail.N s.log s.lasts s.items = some (1, (), (act.filter (fun x => x != self), s.les, s.tail.Epoch, s.tail.N, s.log, s.lasts, s.items), (0, 0, 0, [], [], []))) ∨
      (act.filter (fun x => x != self) = [] ∧ m_primary_New_2 F a0 a1 ep self boot act s.les s.tail.Epoch s.tail.N s.log s.lasts s.items = some (2, (), ([], 0, 0, 0, [], [], []), (s.les, s.tail.Epoch, s.tail.N, s.log, s.lasts, s.items))))) := by
  obtain ⟨i, hi, hmem⟩ := m_index' F act self ha
  have hc : m_slices_Contains___int_int__2 F act self = some (decide (i ≥ 0)) := by rw [m_slices_Contains___int_int__2, hi, Option.bind_some]
  have hck := m_check F s hs hn
  have hcp : m_pglog_Copy_4 F s.les (S_api_Version.mk s.tail.Epoch s.tail.N) s.log s.lasts s.items = some (s.les, s.tail, s.log, s.lasts, s.items) := m_copy F s hs
  rw [m_primary_New_2]
  by_cases h0 : i ≥ 0
  · by_cases h1 : checkF s = 0
    · right
      refine ⟨hmem h0, ?_⟩
      rw [jn_to false (fun J => by rw [hc, Option.bind_some, decide_eq_true h0, Bool.not_true, cond_false]; rw [show m_pglog_Check_2 F s.les (S_api_Version.mk s.tail.Epoch s.tail.N) s.log s.lasts s.items = some (checkF s) from hck, Option.bind_some, h1, bne_self_eq_false]), cond_false, grd_pos _ (by unfold Len; omega)]
      suffices H : ∀ (r : List Int) (c : Nat), act.drop c = r → r.filter (fun x => x != self) = act.filter (fun x => x != self) → ∀ R, ((act.filter (fun x => x != self) ≠ [] → R = some (1, (), (act.filter (fun x => x != self), s.les, s.tail.Epoch, s.tail.N, s.log, s.lasts, s.items), (0, 0, 0, [], [], []))) ∧ (act.filter (fun x => x != self) = [] → R = some (2, (), ([], 0, 0, 0, [], [], []), (s.les, s.tail.Epoch, s.tail.N, s.log, s.lasts, s.items)))) → loopL (fun (nx225 : Unit → Option (Nat × Unit × (List Int × Int × Int × Int × List S_api_Entry × List S_api_Last × List S_api_Item) × (Int × Int × Int × List S_api_Entry × List S_api_Last × List S_api_Item))) (v28_2 : Nat) (x156 : Int) (_ : Unit) => (bif x156 != self then loopL (fun (nx215 : List Int → Option (Nat × Unit × (List Int × Int × Int × Int × List S_api_Entry × List S_api_Last × List S_api_Item) × (Int × Int × Int × List S_api_Entry × List S_api_Last × List S_api_Item))) (v28_17 : Nat) (x196 : Int) (l8_17 : List Int) => (bif x196 != self then grd (App (l8_17.length + [x196].length) 8) (nx215 (l8_17 ++ [x196])) else nx215 l8_17)) (fun (v28_17 : Nat) (l8_17 : List Int) => (m_pglog_Copy_4 F s.les (S_api_Version.mk s.tail.Epoch s.tail.N) s.log s.lasts s.items).bind (fun y233 => some (1, (), (l8_17, y233.1, y233.2.1.Epoch, y233.2.1.N, y233.2.2.1, y233.2.2.2.1, y233.2.2.2.2), (0, 0, 0, [], [], [])))) (act.drop (v28_2 + 1)) (v28_2 + 1) [x156] else nx225 ())) (fun (v28_2 : Nat) (_ : Unit) => (m_pglog_Copy_4 F s.les (S_api_Version.mk s.tail.Epoch s.tail.N) s.log s.lasts s.items).bind (fun y242 => some (2, (), ([], 0, 0, 0, [], [], []), (y242.1, y242.2.1.Epoch, y242.2.1.N, y242.2.2.1, y242.2.2.2.1, y242.2.2.2.2)))) r c () = R by
        by_cases ho : act.filter (fun x => x != self) = []
        · exact .inr ⟨ho, H act 0 rfl rfl _ ⟨fun h => absurd ho h, fun _ => rfl⟩⟩
        · exact .inl ⟨ho, H act 0 rfl rfl _ ⟨fun _ => rfl, fun h => absurd h ho⟩⟩
      intro r
      induction r with
      | nil =>
        intro c hr hf R hR
        rw [loopL, hcp, Option.bind_some]
        exact (hR.2 (by rw [← hf]; rfl)).symm
      | cons x r ih =>
        intro c hr hf R hR
        have hd : act.drop (c + 1) = r := by
          have := congrArg List.tail hr
          simpa [List.tail_drop] using this
        have hl : r.length ≤ 1048576 := by rw [← hd, List.length_drop]; omega
        rw [loopL]
        by_cases hx : (x != self) = true
        · rw [hx, cond_true, hd]
          rw [loop_filter (fun y => y != self) 2000000 (fun nx c y acc hacc => by
            by_cases hy : (y != self) = true
            · rw [if_pos hy, hy, cond_true, grd_pos _ (App.of (by simp <;> omega) (by omega))]
            · rw [if_neg hy, Bool.eq_false_iff.2 hy, cond_false]) r (c + 1) [x] (by simp; omega)]
          rw [hcp, Option.bind_some]
          have e : [x] ++ r.filter (fun y => y != self) = act.filter (fun y => y != self) := by rw [← hf, List.filter_cons_of_pos (by simpa using hx)]; rfl
          rw [e]
          exact (hR.1 (by rw [← e]; simp)).symm
        · rw [Bool.eq_false_iff.2 hx, cond_false]
          exact ih (c + 1) hd (by rw [← hf, List.filter_cons_of_neg (by simpa using hx)]) R hR
    · left
      rw [jn_to true (fun J => by rw [hc, Option.bind_some, decide_eq_true h0, Bool.not_true, cond_false]; rw [show m_pglog_Check_2 F s.les (S_api_Version.mk s.tail.Epoch s.tail.N) s.log s.lasts s.items = some (checkF s) from hck, Option.bind_some, bne_iff_ne.2 h1]), cond_true]
  · left
    rw [jn_to true (fun J => by rw [hc, Option.bind_some, decide_eq_false h0, Bool.not_false, cond_true]), cond_true]

end Go.Proofs.Ytjnbkhnebmlilaa
