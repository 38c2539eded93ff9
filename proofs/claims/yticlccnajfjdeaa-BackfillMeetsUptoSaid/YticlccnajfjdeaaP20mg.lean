/-
  CHAPTER 20, BackfillMeets: plain facts on the models: what a history's state is.
-/
import Derived.Test.YticlccnajfjdeaaP20mf
set_option linter.unusedVariables false
set_option linter.unusedSimpArgs false
set_option maxRecDepth 100000
namespace Go.Proofs.Yticlccnajfjdeaa
open Go Go.RowKit Sx

theorem jn_to {σ ρ : Type} {k : σ → Option ρ} {b : (σ → Option ρ) → Option ρ} (s : σ) (h : ∀ J, b J = J s) : jn k b = k s := h k
def okByte (b : UInt8) : Bool := decide (33 ≤ b.toNat) && decide (b.toNat ≤ 126)
def goodB (s : ByteArray) : Bool := decide (1 ≤ s.size) && decide (s.size ≤ 64) && s.data.toList.all okByte

theorem any_not_all (l : List UInt8) : l.any (fun b => !okByte b) = !l.all okByte := by
  induction l with
  | nil => rfl
  | cons x l ih => simp [ih, Bool.not_and]

theorem ba_getD (s : ByteArray) (i : Nat) : s.data.getD i 0 = s.data.toList.getD i 0 := by
  rw [Array.getD_eq_getD_getElem?, List.getD_eq_getElem?_getD, Array.getElem?_toList]

theorem m_refgood (F : Nat) (s : ByteArray) (h : s.size ≤ 9223372036854775807) : m_tholeref09_Good F s = some (goodB s) := by
  unfold m_tholeref09_Good
  rw [grd_pos _ (by omega)]
  have hsz : s.size = s.data.toList.length := by rw [Array.length_toList]; rfl
  refine (loopC_congr (st' := fun nx c _ => grd (c < s.data.toList.length) (bif !okByte (s.data.toList.getD c 0) then some false else nx ())) fun nx c u => ?_).trans ?_
  · simp only [jn, ← hsz, ba_getD]
    by_cases hc : c < s.size
    · rw [grd_pos _ hc, grd_pos _ hc]
      unfold okByte
      by_cases h1 : (s.data.toList.getD c 0).toNat < 33
      · have h2 : ¬ 33 ≤ (s.data.toList.getD c 0).toNat := by omega
        rw [show decide ((((s.data.toList.getD c 0).toNat : Nat) : Int) < 33) = true from decide_eq_true (by omega), show decide (33 ≤ (s.data.toList.getD c 0).toNat) = false from decide_eq_false h2]
        rfl
      · rw [show decide ((((s.data.toList.getD c 0).toNat : Nat) : Int) < 33) = false from decide_eq_false (by omega), show decide (33 ≤ (s.data.toList.getD c 0).toNat) = true from decide_eq_true (by omega)]
        by_cases h3 : (s.data.toList.getD c 0).toNat ≤ 126
        · rw [show decide ((((s.data.toList.getD c 0).toNat : Nat) : Int) > 126) = false from decide_eq_false (by omega), show decide ((s.data.toList.getD c 0).toNat ≤ 126) = true from decide_eq_true h3]; rfl
        · rw [show decide ((((s.data.toList.getD c 0).toNat : Nat) : Int) > 126) = true from decide_eq_true (by omega), show decide ((s.data.toList.getD c 0).toNat ≤ 126) = false from decide_eq_false h3]; rfl
    · unfold grd; rw [if_neg hc, if_neg hc]
  · rw [show (((s.size : Nat) : Int) - ((0 : Nat) : Int)).toNat = s.data.toList.length by omega]
    refine (loopC_list (fun b => !okByte b) 0 (some false) _ s.data.toList _ 0 (by omega)).trans ?_
    rw [List.drop_zero, any_not_all]
    unfold goodB
    cases s.data.toList.all okByte with
    | false => simp
    | true =>
      simp only [Bool.not_true, cond_false, Bool.and_true]
      by_cases h1 : s.size = 0
      · simp [h1]
      · by_cases h2 : s.size ≤ 64
        · rw [show decide (((s.size : Nat) : Int) ≥ 1) = true from decide_eq_true (by omega), show decide (((s.size : Nat) : Int) ≤ 64) = true from decide_eq_true (by omega), show decide (1 ≤ s.size) = true from decide_eq_true (by omega), show decide (s.size ≤ 64) = true from decide_eq_true h2]; rfl
        · rw [show decide (((s.size : Nat) : Int) ≥ 1) = true from decide_eq_true (by omega), show decide (((s.size : Nat) : Int) ≤ 64) = false from decide_eq_false (by omega), show decide (s.size ≤ 64) = false from decide_eq_false h2]; simp

theorem m_find (F : Nat) (s : Stt) (n : ByteArray) (h : s.items.length ≤ 33554432) : m_pglog_Find F s.les s.tail s.log s.lasts s.items n = some (findF s.items n) := by
  unfold m_pglog_Find findF
  rw [grd_pos _ (Len.of (by omega))]
  refine (Sx.loop_find (fun x : Itm => x.Name.toList == n.toList) (fun x => some (x, true)) _ s.items 0).trans ?_
  cases s.items.find? fun x => x.Name.toList == n.toList <;> rfl
theorem m_reffind (F : Nat) (s : Stt) (n : ByteArray) (h : s.items.length ≤ 33554432) : m_tholeref13_Find F s.les s.tail s.log s.lasts s.items n = some (findF s.items n) := m_find F s n h

def kI (x : Itm) : List UInt8 := x.Name.toList
def kN (x : ByteArray) : List UInt8 := x.toList
theorem A16 {n : Nat} (h : n ≤ 200000) : App n 16 := by unfold App; omega
theorem A40 {n : Nat} (h : n ≤ 200000) : App n 40 := by unfold App; omega
theorem A64 {n : Nat} (h : n ≤ 200000) : App n 64 := by unfold App; omega

theorem m_put (F : Nat) (l : List ByteArray) (x : ByteArray) (h : l.length ≤ 2000) : m_tholeref14_Put F l x = some (putG kN x false l) := by
  simp only [m_tholeref14_Put]
  rw [grd_pos _ (by unfold Len; omega)]
  refine (loop_putG kN x 16 (by decide) _ _ some (fun nx c y p acc ha => ?_) (fun c p acc ha => ?_) l 0 false [] (by simp; omega)).trans rfl
  · simp only [jn, kN]
    cases p <;> cases Op.bytesLess y.toList x.toList <;> cases y.toList == x.toList <;> simp only [Bool.not_true, Bool.not_false, cond_true, cond_false, Bool.true_and, Bool.false_and, Bool.or_true, Bool.or_false, Bool.true_or, Bool.false_or, List.append_nil, List.nil_append] <;> (repeat rw [grd_pos _ (A16 (by simp only [List.length_append, List.length_cons, List.length_nil]; omega))]) <;> simp only [List.append_assoc]
  · cases p
    · simp only [Bool.not_false, cond_true, cond_false]
      rw [grd_pos _ (A16 (by simp only [List.length_cons, List.length_nil]; omega))]
    · simp only [Bool.not_true, cond_true, cond_false, List.append_nil]

theorem m_append (F : Nat) (s : Stt) (e : Ent13) (crc : Int) (hs : s.Small 2000) (he : e.Errno = 0) (hn : e.Name.size ≤ 9223372036854775807) :
    ∃ r : Int × Ver × List Ent13 × List Lst × List Itm × Int, m_tholeref13_Append F s.les s.tail s.log s.lasts s.items e crc = some r ∧
      (r.2.2.2.2.2 ≠ 0 ∨ (r.1 = s.les ∧ r.2.1 = s.tail ∧ r.2.2.1 = s.log ++ [e] ∧ r.2.2.2.1.length ≤ s.lasts.length + 1 ∧ r.2.2.2.2.1 = putG kI (S_api_Item.mk e.Name e.Version crc) e.Remove s.items)) := by
  have hl := hs.log
  have hla := hs.lasts
  have hi := hs.items
  rw [m_tholeref13_Append]
  rw [jn_to (decide (vcmp e.Version (headF s.tail s.log) ≤ 0) || decide (e.Client < 0) || decide (e.Number < 0)) (fun J => by
    rw [m_refhead F s (by omega), Option.bind_some, m_refcmp, Option.bind_some]
    cases decide (vcmp e.Version (headF s.tail s.log) ≤ 0) <;> cases decide (e.Client < 0) <;> rfl)]
  cases (decide (vcmp e.Version (headF s.tail s.log) ≤ 0) || decide (e.Client < 0) || decide (e.Number < 0)) with
  | true => exact ⟨_, rfl, .inl (by decide)⟩
  | false =>
  rw [cond_false, m_refgood F _ hn, Option.bind_some]
  cases goodB e.Name with
  | false => exact ⟨_, rfl, .inl (by decide)⟩
  | true =>
  rw [Bool.not_true, cond_false, m_reffind F s _ (by omega), Option.bind_some]
  rw [jn_to (!e.Remove && !(findF s.items e.Name).2 && decide (((s.items.length : Nat) : Int) ≥ 32)) (fun J => by
    rw [he, show ((0 : Int) == 0) = true from rfl, cond_true]
    cases e.Remove <;> cases (findF s.items e.Name).2 <;> rfl)]
  cases (!e.Remove && !(findF s.items e.Name).2 && decide (((s.items.length : Nat) : Int) ≥ 32)) with
  | true => exact ⟨_, rfl, .inl (by decide)⟩
  | false =>
  rw [cond_false, grd_pos _ (A64 (by simp only [List.length_nil]; omega)), grd_pos _ (A64 (by simp only [List.nil_append, List.length_cons, List.length_nil]; omega)), grd_pos _ (by unfold Len; omega)]
  refine loop_some (fun c (q : Bool × List Lst) => q.2.length ≤ c + (bif q.1 then 1 else 0)) _ s.lasts.length _ _ (fun nx c x q hc hp => ?_) (fun c q hc hp => ?_) s.lasts 0 (false, []) (by simp) (by simp)
  · obtain ⟨p, acc⟩ := q
    simp only [jn] at hp ⊢
    have hacc : acc.length ≤ 3000 := by cases p <;> simp only [cond_true, cond_false] at hp <;> omega
    cases p
    · simp only [Bool.not_false, cond_true, cond_false] at hp ⊢
      cases decide (x.Client ≥ e.Client) <;> cases (x.Client != e.Client) <;> simp only [cond_true, cond_false] <;> (repeat rw [grd_pos _ (A40 (by simp only [List.length_append, List.length_cons, List.length_nil]; omega))]) <;> exact ⟨_, by simp only [List.length_append, List.length_cons, List.length_nil, cond_true, cond_false]; omega, rfl⟩
    · simp only [Bool.not_true, cond_true, cond_false] at hp ⊢
      cases (x.Client != e.Client) <;> simp only [cond_true, cond_false] <;> (repeat rw [grd_pos _ (A40 (by simp only [List.length_append, List.length_cons, List.length_nil]; omega))]) <;> exact ⟨_, by simp only [List.length_append, List.length_cons, List.length_nil, cond_true, cond_false]; omega, rfl⟩
  · obtain ⟨p, acc⟩ := q
    dsimp only at hp ⊢
    have hacc : acc.length ≤ s.lasts.length + 1 := by cases p <;> simp only [cond_true, cond_false] at hp <;> omega
    rw [jn_to (bif p then acc else acc ++ [S_api_Last.mk e.Client e.Number e.Errno e.Version]) (fun J => by
      cases p
      · simp only [Bool.not_false, cond_true, cond_false]
        simp only [cond_false] at hp
        rw [grd_pos _ (A40 (by simp only [List.length_cons, List.length_nil]; omega))]
      · rfl)]
    rw [he, show ((0 : Int) != 0) = false from rfl, cond_false, grd_pos _ (by unfold Len; omega)]
    refine ⟨_, loop_putG kI (S_api_Item.mk e.Name e.Version crc) 40 (by decide) _ _ (fun its => some (s.les, s.tail, (([] : List S_api_Entry) ++ s.log) ++ [e], (bif p then acc else acc ++ [S_api_Last.mk e.Client e.Number 0 e.Version]), its, 0)) (fun nx c y p acc ha => ?_) (fun c p acc ha => ?_) s.items 0 e.Remove [] (by simp; omega), .inr ⟨rfl, rfl, rfl, ?_, rfl⟩⟩
    · simp only [jn, kI]
      cases p <;> cases Op.bytesLess y.Name.toList e.Name.toList <;> cases y.Name.toList == e.Name.toList <;> simp only [Bool.not_true, Bool.not_false, cond_true, cond_false, Bool.true_and, Bool.false_and, Bool.or_true, Bool.or_false, Bool.true_or, Bool.false_or, List.append_nil, List.nil_append] <;> (repeat rw [grd_pos _ (A40 (by simp only [List.length_append, List.length_cons, List.length_nil]; omega))]) <;> simp only [List.append_assoc]
    · cases p
      · simp only [Bool.not_false, cond_true, cond_false]
        rw [grd_pos _ (A40 (by simp only [List.length_cons, List.length_nil]; omega))]
      · simp only [Bool.not_true, cond_true, cond_false, List.append_nil]
    · show (bif p then acc else acc ++ [_]).length ≤ _
      cases p
      · simp only [cond_false] at hp ⊢
        simp only [List.length_append, List.length_cons, List.length_nil]; omega
      · exact hacc

end Go.Proofs.Yticlccnajfjdeaa
