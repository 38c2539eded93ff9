/-
  CHAPTER 18, PrimaryReads: what a primary's steps make of a read.
-/
import Derived.Test.YtjnbkhnebmlilaaP18ra
set_option linter.unusedVariables false
set_option linter.unusedSimpArgs false
set_option maxRecDepth 100000
namespace Go.Proofs.Ytjnbkhnebmlilaa
open Go Go.RowKit Sx

/-- A Check, number n, to osd k. -/
def chk (pool seed epoch self boot n k : Int) : S_api_Msg_n := S_api_Msg_n.mk 34 2 self 2 k boot epoch pool seed 0 n 0 0 0 0 0 0 0 0 0 0 0 0 false 0 (ByteArray.mk #[]) 0 0 (ByteArray.mk #[]) 0 0 0 (ByteArray.mk #[]) 0 0 0
/-- Its answer. -/
def rep (pool seed epoch self n k : Int) : S_api_Msg_n := S_api_Msg_n.mk 35 2 k 2 self 0 epoch pool seed 0 n 0 0 0 0 0 0 0 0 0 0 0 0 false 0 (ByteArray.mk #[]) 0 0 (ByteArray.mk #[]) 0 0 0 (ByteArray.mk #[]) 0 0 0

theorem loop_map {α β ρ : Type} (f : α → β) (N : Nat) {st : (List β → Option ρ) → Nat → α → List β → Option ρ} {fin : Nat → List β → Option ρ} (hst : ∀ nx c x acc, acc.length < N → st nx c x acc = nx (acc ++ [f x])) :
    ∀ (l : List α) (c : Nat) (acc : List β), acc.length + l.length ≤ N → loopL st fin l c acc = fin (c + l.length) (acc ++ l.map f)
  | [], c, acc, _ => by simp [loopL]
  | x :: l, c, acc, h => by
    rw [List.length_cons] at h
    rw [loopL, hst _ _ _ _ (by omega), loop_map f N hst l (c + 1) (acc ++ [f x]) (by simp <;> omega)]
    rw [List.length_cons, List.map_cons, List.append_assoc, List.singleton_append, show c + 1 + l.length = c + (l.length + 1) by omega]

theorem beq_node (a b : Int) : S_api_Node.beq (S_api_Node.mk a b) (S_api_Node.mk a b) = true := (S_api_Node.beq_iff _ _).2 rfl
theorem beq_pg (a b : Int) : S_api_Pg.beq (S_api_Pg.mk a b) (S_api_Pg.mk a b) = true := (S_api_Pg.beq_iff _ _).2 rfl

section
variable (F : Nat) {l0 : List Int} (pool seed epoch self boot c6 c7 c8 : Int) (l9 : List S_api_Entry) (l10 : List S_api_Last) (l11 : List S_api_Item)

theorem m_clone2 (o : List Int) (h : o.length ≤ 1000) : m_slices_Clone___int_int__2 F o = some o := by
  rw [m_slices_Clone___int_int__2, grd_pos _ (App.of (by simp <;> omega) (by omega)), List.nil_append]

theorem m_read (cks q z : Int) (hI : I64 (cks + 1)) (o : List Int) (ho : o ≠ []) (h : o.length ≤ 1000) : m___primary_Machine__read F pool seed epoch self boot o c6 c7 c8 l9 l10 l11 cks q z = some (o.map (chk pool seed epoch self boot (cks + 1)), cks + 1, o) := by
  obtain ⟨x, r, rfl⟩ := List.exists_cons_of_ne_nil ho
  rw [List.length_cons] at h
  rw [m___primary_Machine__read, grd_pos _ hI, m_clone2 F (x :: r) (by simp <;> omega), Option.bind_some,
    grd_pos _ (by simp <;> omega), grd_pos _ (by simp), m___primary_Machine__ask_2, m___primary_Machine__to_3, Option.bind_some, Option.bind_some, grd_pos _ (by unfold Len; simp; omega), List.drop_one, List.tail_cons]
  rw [loop_map (chk pool seed epoch self boot (cks + 1)) 2000 (fun nx c k acc hacc => by
    rw [m___primary_Machine__ask_2, m___primary_Machine__to_3, Option.bind_some, Option.bind_some, grd_pos _ (App.of (by simp <;> omega) (by omega))]; rfl) r 1 _ (by simp <;> omega)]
  rw [m___primary_Machine__done_3, grd_pos _ (by simp <;> omega), Option.bind_some]
  rfl

theorem m_step3 (cks q : Int) (hI : I64 (cks + 1)) (o : List Int) (ho : o ≠ []) (h : o.length ≤ 1000) : m___primary_Machine__Step_3 F pool seed epoch self boot o c6 c7 c8 l9 l10 l11 cks q = some (o.map (chk pool seed epoch self boot (cks + 1)), cks + 1, o) := by
  rw [m___primary_Machine__Step_3, m___primary_Machine__request_2, m_slices_ContainsFunc___api_Msg_api_Msg__2, m_slices_IndexFunc___api_Msg_api_Msg__2, Option.bind_some, Option.bind_some, m_slices_Clone___byte_byte__2, Option.bind_some, m___primary_Machine__begin_3, m_read F pool seed epoch self boot c6 c7 c8 l9 l10 l11 cks q 0 hI o ho h, Option.bind_some, Option.bind_some, Option.bind_some]

theorem m_step5 (cks q : Int) (hI : I64 (cks + 1)) (o : List Int) (ho : o ≠ []) (h : o.length ≤ 1000) : m___primary_Machine__Step_5 F pool seed epoch self boot o c6 c7 c8 l9 l10 l11 cks q = some (o.map (chk pool seed epoch self boot (cks + 1)), cks + 1, o) := by
  rw [m___primary_Machine__Step_5, m___primary_Machine__request_3, m_slices_ContainsFunc___api_Msg_api_Msg__3, m_slices_IndexFunc___api_Msg_api_Msg__3, Option.bind_some, Option.bind_some, m_slices_Clone___byte_byte__2, Option.bind_some, m___primary_Machine__begin_3, m_read F pool seed epoch self boot c6 c7 c8 l9 l10 l11 cks q 0 hI o ho h, Option.bind_some, Option.bind_some, Option.bind_some]

theorem m_index (l : List Int) (k : Int) (h : l.length ≤ 1000) (hk : k ∈ l) : ∃ i : Int, 0 ≤ i ∧ m_slices_Index___int_int__3 F l k = some i := by
  rw [m_slices_Index___int_int__3, grd_pos _ (by unfold Len; omega)]
  suffices H : ∀ (l : List Int) (c : Nat), k ∈ l → ∃ i : Int, 0 ≤ i ∧ loopL (fun (nx32 : Unit → Option (Int)) (v8_1 : Nat) (x22 : Int) (_ : Unit) => (bif k == x22 then some ((v8_1 : Nat) : Int) else nx32 ())) (fun (v8_1 : Nat) (_ : Unit) => some (-1)) l c () = some i from H l 0 hk
  intro l
  induction l with
  | nil => intro c h; cases h
  | cons x l ih =>
    intro c hm
    rw [loopL]
    by_cases hx : k = x
    · subst hx; rw [beq_self_eq_true, cond_true]; exact ⟨_, by omega, rfl⟩
    · rw [beq_eq_false_iff_ne.2 hx, cond_false]
      exact ih (c + 1) (by rcases List.mem_cons.1 hm with h | h; exact absurd h hx; exact h)
theorem m_index0 (l : List Int) (k : Int) (h : l.length ≤ 1000) : m_slices_Index___int_int__3 F (k :: l) k = some 0 := by
  rw [m_slices_Index___int_int__3, grd_pos _ (by unfold Len; simp; omega), loopL, beq_self_eq_true, cond_true]; rfl
theorem m_delete0 (l : List Int) (k : Int) (h : l.length ≤ 1000) : m_slices_Delete___int_int__2 F (k :: l) 0 (0 + 1) = some l := by
  rw [m_slices_Delete___int_int__2, grd_pos _ ⟨by omega, by simp⟩, grd_pos _ ⟨by omega, by simp⟩, show ((0 : Int) == 0 + 1) = false from rfl, cond_false, grd_pos _ ⟨by omega, by simp⟩, grd_pos _ (App.of (by simp <;> omega) (by omega)), grd_pos _ (by decide), grd_pos _ (by simp)]
  rfl



theorem m_done4 (rn ck cks z : Int) (l : List Int) (hl : l ≠ []) : m___primary_Machine__done_4 F pool seed epoch self boot l0 c6 c7 c8 l9 l10 l11 rn ck l cks z = some (0, (), []) := by
  have : 0 < l.length := List.length_pos_iff.2 hl
  rw [m___primary_Machine__done_4, decide_eq_true (by omega), cond_true]
theorem m_done4' (rn ck cks z : Int) (hn : l11.length ≤ 1048576) : m___primary_Machine__done_4 F pool seed epoch self boot l0 c6 c7 c8 l9 l10 l11 rn ck [] cks z = some (1, (), l11.map S_api_Item.Name) := by
  rw [m___primary_Machine__done_4, decide_eq_false (by simp), cond_false, grd_pos _ (by unfold Len; omega)]
  rw [loop_map S_api_Item.Name 2000000 (fun nx c x acc hacc => by rw [grd_pos _ (App.of (by simp <;> omega) (by omega))]) l11 0 [] (by simp <;> omega)]
  rw [m___primary_Machine__answer_2, m___primary_Machine__to_4, Option.bind_some, Option.bind_some, List.nil_append]

theorem m_step4 (rn n cks : Int) (o : List Int) (k : Int) (r : List Int) (h : r.length ≤ 1000) (hn : l11.length ≤ 1048576) :
    m___primary_Machine__Step_4 F pool seed epoch self boot o c6 c7 c8 l9 l10 l11 rn n (k :: r) cks 2 k 2 self epoch pool seed n = some (if r = [] then (1, [], (l11.map S_api_Item.Name, [])) else (0, r, ([], []))) := by
  rw [m___primary_Machine__Step_4, beq_node, beq_pg, grd_pos _ (by first | rfl | decide), grd_pos _ (by first | rfl | decide), m___primary_Machine__acked_2, bne_self_eq_false, grd_pos _ (by first | rfl | decide), bne_self_eq_false, grd_pos _ (by first | rfl | decide), m_index0 F r k h, Option.bind_some, grd_pos _ (by first | rfl | decide), beq_self_eq_true, grd_pos _ (by first | rfl | decide), grd_pos _ (by unfold I64; omega), m_delete0 F r k h, Option.bind_some]
  by_cases hr : r = []
  · subst hr
    rw [m_done4' F pool seed epoch self boot c6 c7 c8 l9 l10 l11 _ _ _ _ hn, Option.bind_some, show ((1 : Nat) == 0) = false from rfl, cond_false, m___primary_Machine__begin_5, Option.bind_some, Option.bind_some, show ((1 : Nat) == 0) = false from rfl, cond_false, if_pos rfl]
  · rw [m_done4 F pool seed epoch self boot c6 c7 c8 l9 l10 l11 _ _ _ _ r hr, Option.bind_some, show ((0 : Nat) == 0) = true from rfl, cond_true, m___primary_Machine__begin_4, Option.bind_some, Option.bind_some, show ((0 : Nat) == 0) = true from rfl, cond_true, if_neg hr]
end

end Go.Proofs.Ytjnbkhnebmlilaa
