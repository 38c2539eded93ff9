/-
  CHAPTER 18, PrimaryOnce: plain facts: what a machine makes of a request, from its coming in on; and of acks.
-/
import Derived.Test.YtjnbkhnebmlilaaGreatP18oh
set_option linter.unusedVariables false
set_option linter.unusedSimpArgs false
set_option maxRecDepth 100000
namespace Go.Proofs.YtjnbkhnebmlilaaGreat
open Go Go.RowKit Sx

theorem nodeT : (!(S_api_Node.beq (S_api_Node.mk 2 0) (S_api_Node.mk 2 0))) = false := rfl
theorem pgT : (!(S_api_Pg.beq (S_api_Pg.mk 1 0) (S_api_Pg.mk 1 0))) = false := rfl
theorem k30 : ((30 : Int) == 30) = true := rfl
theorem k3 : ((3 : Int) != 3) = false := rfl
theorem k2 : ((2 : Int) != 2) = false := rfl
theorem k1 : ((1 : Int) == 1) = true := rfl

theorem begin_spec (F : Nat) {s : Stt} {j : Nat} (h : Inv j s) (hj : j ≤ 999) (c : Int) (hc : 0 ≤ c ∧ c ≤ 1000) (n : Nat) (p : S_api_Op) (hp : Op.Ok p) :
    ∃ b, m___primary_Machine__begin (F + 64) s.les s.tail.Epoch s.tail.N s.log s.lasts s.items 30 3 0 2 0 0 0 1 0 5 ((n : Nat) : Int) 0 0 0 0 0 0 0 0 0 0 0 0 false 0 (ByteArray.mk #[]) 0 0 (ByteArray.mk #[]) 0 0 p.Kind p.Name p.Data p.Expect.Epoch p.Expect.N 0 c = some b ∧
      (Spec s n p b.t b.c6 b.c7 b.c9 b.c10 b.c11 b.c12 b.c13 b.c14 b.c15 b.c16 b.c17 b.d12 b.d13 b.d14 b.d15 b.d16 b.d17 b.d18 b.d19 b.d20 b.d21 ∨ (b.t = 4 ∧ b.e0 = c + 1)) := by
  rw [m___primary_Machine__begin, jn_to (p.Kind == 2 || p.Kind == 3 || p.Kind == 4) (fun J => by cases p.Kind == 2 <;> cases p.Kind == 3 <;> cases p.Kind == 4 <;> rfl)]
  cases p.Kind == 2 || p.Kind == 3 || p.Kind == 4 with
  | true =>
    obtain ⟨w, hw, hs⟩ := write_spec F h hj c n p hp
    rw [cond_true, hw, Option.bind_some]
    rcases hs with h0 | h1 | ⟨h2, hs⟩ | ⟨h3, hs⟩
    · rw [h0]; exact ⟨_, rfl, .inl (.inl rfl)⟩
    · rw [h1]; exact ⟨_, rfl, .inl (.inr (.inl rfl))⟩
    · rw [h2]; exact ⟨_, rfl, .inl (.inr (.inr (.inl ⟨rfl, hs⟩)))⟩
    · rw [h3]; exact ⟨_, rfl, .inl (.inr (.inr (.inr ⟨rfl, hs⟩)))⟩
  | false =>
    rw [cond_false, jn_to (p.Kind == 1 || p.Kind == 5) (fun J => by cases p.Kind == 1 <;> cases p.Kind == 5 <;> rfl)]
    cases p.Kind == 1 || p.Kind == 5 with
    | true =>
      rw [cond_true, m___primary_Machine__read, grd_pos _ (by unfold I64; omega)]
      exact ⟨_, rfl, .inr ⟨rfl, rfl⟩⟩
    | false => exact ⟨_, rfl, .inl (.inl rfl)⟩

theorem request_spec (F : Nat) {s : Stt} {j : Nat} (h : Inv j s) (hj : j ≤ 999) (c : Int) (hc : 0 ≤ c ∧ c ≤ 1000) (n : Nat) (p : S_api_Op) (hp : Op.Ok p) :
    ∃ b, m___primary_Machine__request (F + 64) s.les s.tail.Epoch s.tail.N s.log s.lasts s.items c 30 3 0 2 0 0 0 1 0 5 ((n : Nat) : Int) 0 0 0 0 0 0 0 0 0 0 0 0 false 0 (ByteArray.mk #[]) 0 0 (ByteArray.mk #[]) 0 0 p.Kind p.Name p.Data p.Expect.Epoch p.Expect.N 0 = some b ∧
      (Spec s n p b.t b.c6 b.c7 b.c9 b.c10 b.c11 b.c12 b.c13 b.c14 b.c15 b.c16 b.c17 b.d12 b.d13 b.d14 b.d15 b.d16 b.d17 b.d18 b.d19 b.d20 b.d21 ∨ (b.t = 4 ∧ b.e0 = c + 1)) := by
  obtain ⟨w, hw, hs⟩ := begin_spec F h hj c hc n p hp
  have hcf : ∀ (A B C D E G H I J K L M N O P Q R S T U V W X : Int) (Y : Bool) (Z : Int) (a : ByteArray) (b d : Int) (e : ByteArray) (f g i : Int) (k : ByteArray) (l : List UInt8) (m o q : Int), m_slices_ContainsFunc___api_Msg_api_Msg_ (F + 64) A B C D E G H I J K L M N O P Q R S T U V W X Y Z a b d e f g i k l m o q = some () := fun _ _ _ _ _ _ _ _ _ _ _ _ _ _ _ _ _ _ _ _ _ _ _ _ _ _ _ _ _ _ _ _ _ _ _ _ _ => rfl
  rw [m___primary_Machine__request, hcf, Option.bind_some, m_clone _ _ hp.1, Option.bind_some, hw, Option.bind_some]
  rcases hs with (h0 | h1 | ⟨h2, hs⟩ | ⟨h3, hs⟩) | ⟨h4, hs⟩
  · rw [h0]; exact ⟨_, rfl, .inl (.inl rfl)⟩
  · rw [h1]; exact ⟨_, rfl, .inl (.inr (.inl rfl))⟩
  · rw [h2]; exact ⟨_, rfl, .inl (.inr (.inr (.inl ⟨rfl, hs⟩)))⟩
  · rw [h3]; exact ⟨_, rfl, .inl (.inr (.inr (.inr ⟨rfl, hs⟩)))⟩
  · rw [h4]; exact ⟨_, rfl, .inr ⟨rfl, hs⟩⟩

theorem step_spec (F : Nat) {s : Stt} {j : Nat} (h : Inv j s) (hj : j ≤ 999) (c : Int) (hc : 0 ≤ c ∧ c ≤ 1000) (n : Nat) (p : S_api_Op) (hp : Op.Ok p) :
    ∃ b, m___primary_Machine__Step (F + 64) s.les s.tail.Epoch s.tail.N s.log s.lasts s.items c 30 3 0 2 0 0 0 1 0 5 ((n : Nat) : Int) 0 0 0 0 0 0 0 0 0 0 0 0 false 0 (ByteArray.mk #[]) 0 0 (ByteArray.mk #[]) 0 0 p.Kind p.Name p.Data p.Expect.Epoch p.Expect.N 0 = some b ∧
      (Spec s n p b.t b.c6 b.c7 b.c9 b.c10 b.c11 b.c12 b.c13 b.c14 b.c15 b.c16 b.c17 b.d12 b.d13 b.d14 b.d15 b.d16 b.d17 b.d18 b.d19 b.d20 b.d21 ∨ (b.t = 4 ∧ b.e0 = c + 1)) := by
  obtain ⟨w, hw, hs⟩ := request_spec F h hj c hc n p hp
  rw [m___primary_Machine__Step, grd_pos _ nodeT, grd_pos _ pgT, grd_pos _ k30, hw, Option.bind_some]
  rcases hs with (h0 | h1 | ⟨h2, hs⟩ | ⟨h3, hs⟩) | ⟨h4, hs⟩
  · rw [h0]; exact ⟨_, rfl, .inl (.inl rfl)⟩
  · rw [h1]; exact ⟨_, rfl, .inl (.inr (.inl rfl))⟩
  · rw [h2]; exact ⟨_, rfl, .inl (.inr (.inr (.inl ⟨rfl, hs⟩)))⟩
  · rw [h3]; exact ⟨_, rfl, .inl (.inr (.inr (.inr ⟨rfl, hs⟩)))⟩
  · rw [h4]; exact ⟨_, rfl, .inr ⟨rfl, hs⟩⟩

/-! ### Acks -/

theorem step2_ok (F : Nat) (n : Nat) (p : S_api_Op) (b : R___primary_Machine__Step) (c : Int) : ∃ r, m___primary_Machine__Step_2 F b.c12 b.c13 b.c14 b.c15 b.c16 b.c17 30 3 0 2 0 0 0 1 0 5 ((n : Nat) : Int) 0 0 0 0 0 0 0 0 0 0 0 0 false 0 (ByteArray.mk #[]) 0 0 (ByteArray.mk #[]) 0 0 p.Kind p.Name b.c18 p.Expect.Epoch p.Expect.N 0 b.c6 b.c7 b.c9 b.c10 p.Name 5 ((n : Nat) : Int) p.Name b.c6 b.c7 b.c19 0 c 2 1 2 0 0 3 1 0 0 0 0 0 0 0 0 0 0 0 0 0 b.c6 b.c7 b.c9 b.c10 p.Name 5 ((n : Nat) : Int) (ByteArray.mk #[]) 0 0 0 (ByteArray.mk #[]) 0 0 0 = some r := by
  rw [m___primary_Machine__Step_2, grd_pos _ nodeT, grd_pos _ pgT]
  rw [m___primary_Machine__acked, grd_pos _ k3, grd_pos _ k2, m_slices_Index___int_int__2, grd_pos _ k1, Option.bind_some, grd_pos _ (vbeq_self _), m_slices_Delete___int_int_, Option.bind_some, m___primary_Machine__done_4]
  unfold jn
  cases b.c10 == 0 <;> exact ⟨_, rfl⟩
theorem step3_ok (F : Nat) (n : Nat) (p : S_api_Op) (b : R___primary_Machine__Step) (c : Int) : ∃ r, m___primary_Machine__Step_3 F b.d16 b.d17 b.d18 b.d19 b.d20 b.d21 30 3 0 2 0 0 0 1 0 5 ((n : Nat) : Int) 0 0 0 0 0 0 0 0 0 0 0 0 false 0 (ByteArray.mk #[]) 0 0 (ByteArray.mk #[]) 0 0 p.Kind p.Name b.d22 p.Expect.Epoch p.Expect.N 0 b.d12 b.d13 b.d14 b.d15 p.Name 5 ((n : Nat) : Int) (ByteArray.mk #[]) 0 0 0 c 2 1 2 0 0 3 1 0 0 0 0 0 0 0 0 0 0 0 0 0 b.d12 b.d13 b.d14 b.d15 p.Name 5 ((n : Nat) : Int) (ByteArray.mk #[]) 0 0 0 (ByteArray.mk #[]) 0 0 0 = some r := by
  rw [m___primary_Machine__Step_3, grd_pos _ nodeT, grd_pos _ pgT]
  rw [m___primary_Machine__acked_2, grd_pos _ k3, grd_pos _ k2, m_slices_Index___int_int__2, grd_pos _ k1, Option.bind_some, grd_pos _ (vbeq_self _), m_slices_Delete___int_int_, Option.bind_some, m___primary_Machine__done_5]
  unfold jn
  cases b.d15 == 0 <;> exact ⟨_, rfl⟩

theorem loop_names {ρ : Type} (R : List ByteArray → Option ρ) : ∀ (l : List Itm) (q : Nat) (c : List ByteArray), c.length + l.length ≤ 33554432 →
    ∃ c', loopL (fun (ah : List ByteArray → Option ρ) (Q : Nat) (ai : S_api_Item) (c : List ByteArray) => grd (App (c.length + [ai.Name].length) 16) (ah (c ++ [ai.Name]))) (fun (Q : Nat) (c : List ByteArray) => R c) l q c = R c'
  | [], q, c, _ => ⟨c, rfl⟩
  | x :: r, q, c, h => by
    simp only [List.length_cons] at h
    obtain ⟨c', h'⟩ := loop_names R r (q + 1) (c ++ [x.Name]) (by simp; omega)
    refine ⟨c', ?_⟩
    show grd (App (c.length + [x.Name].length) 16) _ = _
    rw [grd_pos _ (App.of (by simp; omega) (by omega))]
    exact h'
theorem bind_ex {α β : Type} {o : Option α} {k : α → Option β} (h : ∃ d, o = some d) (hk : ∀ d, ∃ r, k d = some r) : ∃ r, o.bind k = some r := by
  obtain ⟨d, rfl⟩ := h; exact hk d
theorem step4_ok (F : Nat) {s : Stt} (hs : s.Small 1999999) (n : Nat) (p : S_api_Op) (hp : Op.Ok p) (b : R___primary_Machine__Step) (c : Int) : ∃ r, m___primary_Machine__Step_4 (F + 64) s.les s.tail.Epoch s.tail.N s.log s.lasts s.items 30 3 0 2 0 0 0 1 0 5 ((n : Nat) : Int) 0 0 0 0 0 0 0 0 0 0 0 0 false 0 (ByteArray.mk #[]) 0 0 (ByteArray.mk #[]) 0 0 p.Kind p.Name b.e1 p.Expect.Epoch p.Expect.N 0 0 0 false 0 (ByteArray.mk #[]) 0 0 (ByteArray.mk #[]) 0 0 b.e0 b.e0 2 1 2 0 0 3 1 0 0 b.e0 0 0 0 0 0 0 0 0 0 0 0 0 false 0 (ByteArray.mk #[]) 0 0 (ByteArray.mk #[]) 0 0 0 (ByteArray.mk #[]) 0 0 0 = some r := by
  rw [m___primary_Machine__Step_4, grd_pos _ nodeT, grd_pos _ pgT]
  rw [m___primary_Machine__acked_3, grd_pos _ k3, grd_pos _ k2, m_slices_Index___int_int__2, grd_pos _ k1, Option.bind_some, grd_pos _ (show (!(b.e0 == b.e0)) = false by simp), m_slices_Delete___int_int_, Option.bind_some]
  have hi := hs.items
  refine bind_ex (bind_ex ?_ (fun d => ?_)) (fun d => ?_)
  · rw [m___primary_Machine__done_6]
    unfold jn
    dsimp only
    cases p.Kind == 5 with
    | true =>
      rw [cond_true, grd_pos _ (by unfold Len; omega)]
      obtain ⟨c', h'⟩ := loop_names (ρ := R___primary_Machine__done_6) (fun c => some (R___primary_Machine__done_6.mk 1 0 c)) s.items 0 [] (by simp; omega)
      exact ⟨_, h'⟩
    | false =>
      rw [cond_false, m_good _ _ (by have := hp.2; omega), Option.bind_some]
      cases goodB p.Name with
      | false => exact ⟨_, rfl⟩
      | true =>
        rw [Bool.not_true, cond_false, show S_api_Version.mk s.tail.Epoch s.tail.N = s.tail from rfl, m_find _ s _ (by omega), Option.bind_some]
        cases (findF s.items p.Name).2 <;> exact ⟨_, rfl⟩
  · cases d.t == 0 <;> cases d.t == 1 <;> exact ⟨_, rfl⟩
  · cases d.t == 0 <;> cases d.t == 1 <;> exact ⟨_, rfl⟩
end Go.Proofs.YtjnbkhnebmlilaaGreat
