/-
  CHAPTER 14: plain facts on the models: the law MissingDiffs.
-/
import Derived.Test.YtdelhcdknglibaaP14h
set_option linter.unusedVariables false
set_option linter.unusedSimpArgs false
set_option maxRecDepth 100000
namespace Go.Proofs.Ytdelhcdknglibaa
open Go Go.RowKit Sx

theorem loopC_ex {σ ρ : Type} (P : Nat → σ → Prop) (Q : ρ → Prop) (N : Nat) (st : (σ → Option ρ) → Nat → σ → Option ρ) (fin : Nat → σ → Option ρ)
    (hs : ∀ nx c s, c < N → P c s → ∃ s', P (c + 1) s' ∧ st nx c s = nx s') (hf : ∀ s, P N s → ∃ r, fin N s = some r ∧ Q r) :
    ∀ (k c : Nat) (s : σ), c + k = N → P c s → ∃ r, loopC st fin k c s = some r ∧ Q r
  | 0, c, s, h, hp => by
    obtain rfl : c = N := by omega
    rw [loopC]; exact hf s hp
  | k + 1, c, s, h, hp => by
    obtain ⟨s', h1, e⟩ := hs (fun s' => loopC st fin k (c + 1) s') c s (by omega) hp
    rw [loopC, e]
    exact loopC_ex P Q N st fin hs hf k (c + 1) s' (by omega) h1

theorem A1 {n : Nat} (h : n ≤ 2000000000000) : App n 1 := by unfold App; omega

/-! ### The bytes of a state -/
theorem m_int (F : Nat) (l : List UInt8) (x : Int) (h : l.length ≤ 1000000000000) : ∃ r, m_tholeref02_Int F l x = some r ∧ r.length = l.length + 8 := by
  unfold m_tholeref02_Int
  rw [grd_pos _ (by decide)]
  refine loopC_ex (fun c (r : List UInt8) => r.length = l.length + c) _ 8 _ _ (fun nx c s hc hp => ?_) (fun s hp => ⟨s, rfl, hp⟩) _ 0 l rfl rfl
  rw [grd_pos _ (by unfold I64; omega), grd_pos _ (by omega), grd_pos _ (wrap_u8_range _), grd_pos _ (A1 (by simp only [List.length_cons, List.length_nil]; omega))]
  exact ⟨_, by simp only [List.length_append, List.length_cons, List.length_nil]; omega, rfl⟩
theorem m_word (F : Nat) (l : List UInt8) (x : Int) (h : l.length ≤ 1000000000000) : ∃ r, m_tholeref02_Word F l x = some r ∧ r.length = l.length + 4 := by
  unfold m_tholeref02_Word
  rw [grd_pos _ (by decide)]
  refine loopC_ex (fun c (r : List UInt8) => r.length = l.length + c) _ 4 _ _ (fun nx c s hc hp => ?_) (fun s hp => ⟨s, rfl, hp⟩) _ 0 l rfl rfl
  rw [grd_pos _ (by unfold I64; omega), grd_pos _ (by omega), grd_pos _ (wrap_u8_range _), grd_pos _ (A1 (by simp only [List.length_cons, List.length_nil]; omega))]
  exact ⟨_, by simp only [List.length_append, List.length_cons, List.length_nil]; omega, rfl⟩
theorem m_count (F : Nat) (l : List UInt8) (x : Int) (h : l.length ≤ 1000000000000) : ∃ r, m_tholeref02_Count F l x = some r ∧ r.length = l.length + 4 := by
  obtain ⟨r, h1, h2⟩ := m_word F l (IntKind.u32.wrap x) h
  unfold m_tholeref02_Count
  rw [h1, Option.bind_some]
  exact ⟨r, rfl, h2⟩
theorem m_ver (F : Nat) (l : List UInt8) (v : Ver) (h : l.length ≤ 900000000000) : ∃ r, m_tholeref02_PutVersion F l v = some r ∧ r.length = l.length + 16 := by
  obtain ⟨r, h1, h2⟩ := m_int F l v.Epoch (by omega)
  obtain ⟨q, h3, h4⟩ := m_int F r v.N (by omega)
  unfold m_tholeref02_PutVersion
  rw [h1, Option.bind_some, h3, Option.bind_some]
  exact ⟨q, rfl, by omega⟩
theorem m_boolb (F : Nat) (l : List UInt8) (b : Bool) (h : l.length ≤ 1000000000000) : ∃ r, m_tholeref02_Bool F l b = some r ∧ r.length = l.length + 1 := by
  unfold m_tholeref02_Bool
  cases b
  · rw [cond_false, grd_pos _ (A1 (by simp only [List.length_cons, List.length_nil]; omega))]; exact ⟨_, rfl, by simp⟩
  · rw [cond_true, grd_pos _ (A1 (by simp only [List.length_cons, List.length_nil]; omega))]; exact ⟨_, rfl, by simp⟩
theorem m_bytesb (F : Nat) (l m : List UInt8) (h : l.length ≤ 900000000000) (hm : m.length ≤ 1048576) : ∃ r, m_tholeref02_Bytes F l m = some r ∧ r.length = l.length + 4 + m.length := by
  obtain ⟨r, h1, h2⟩ := m_count F l ((m.length : Nat) : Int) (by omega)
  unfold m_tholeref02_Bytes
  rw [h1, Option.bind_some, grd_pos _ (A1 (by omega))]
  exact ⟨_, rfl, by rw [List.length_append]; omega⟩
theorem size_data (s : ByteArray) : s.data.toList.length = s.size := by rw [Array.length_toList]; rfl
theorem m_entryb (F : Nat) (l : List UInt8) (e : Ent13) (h : l.length ≤ 800000000000) (hm : e.Name.size ≤ 1048576) : ∃ r, m_tholeref02_PutEntry F l e = some r ∧ r.length ≤ l.length + 1048700 := by
  have hd := size_data e.Name
  obtain ⟨r1, e1, l1⟩ := m_ver F l e.Version (by omega)
  obtain ⟨r2, e2, l2⟩ := m_boolb F r1 e.Remove (by omega)
  obtain ⟨r3, e3, l3⟩ := m_int F r2 e.Errno (by omega)
  obtain ⟨r4, e4, l4⟩ := m_bytesb F r3 e.Name.data.toList (by omega) (by omega)
  obtain ⟨r5, e5, l5⟩ := m_int F r4 e.Client (by omega)
  obtain ⟨r6, e6, l6⟩ := m_int F r5 e.Number (by omega)
  unfold m_tholeref02_PutEntry
  rw [e1, Option.bind_some, e2, Option.bind_some, e3, Option.bind_some, e4, Option.bind_some, e5, Option.bind_some, e6, Option.bind_some]
  exact ⟨_, rfl, by omega⟩
theorem m_lastb (F : Nat) (l : List UInt8) (e : Lst) (h : l.length ≤ 800000000000) : ∃ r, m_tholeref02_PutLast F l e = some r ∧ r.length ≤ l.length + 100 := by
  obtain ⟨r1, e1, l1⟩ := m_int F l e.Client (by omega)
  obtain ⟨r2, e2, l2⟩ := m_int F r1 e.Number (by omega)
  obtain ⟨r3, e3, l3⟩ := m_int F r2 e.Errno (by omega)
  obtain ⟨r4, e4, l4⟩ := m_ver F r3 e.Version (by omega)
  unfold m_tholeref02_PutLast
  rw [e1, Option.bind_some, e2, Option.bind_some, e3, Option.bind_some, e4, Option.bind_some]
  exact ⟨_, rfl, by omega⟩
theorem m_itemb (F : Nat) (l : List UInt8) (e : Itm) (h : l.length ≤ 800000000000) (hm : e.Name.size ≤ 1048576) : ∃ r, m_tholeref02_PutItem F l e = some r ∧ r.length ≤ l.length + 1048700 := by
  have hd := size_data e.Name
  obtain ⟨r1, e1, l1⟩ := m_bytesb F l e.Name.data.toList (by omega) (by omega)
  obtain ⟨r2, e2, l2⟩ := m_ver F r1 e.Version (by omega)
  obtain ⟨r3, e3, l3⟩ := m_word F r2 e.Crc (by omega)
  unfold m_tholeref02_PutItem
  rw [e1, Option.bind_some, e2, Option.bind_some, e3, Option.bind_some]
  exact ⟨_, rfl, by omega⟩

theorem loop_mem {α σ ρ : Type} (L : List α) (P : Nat → σ → Prop) (Q : ρ → Prop) (st : (σ → Option ρ) → Nat → α → σ → Option ρ) (fin : Nat → σ → Option ρ)
    (hs : ∀ nx c x s, x ∈ L → c < L.length → P c s → ∃ s', P (c + 1) s' ∧ st nx c x s = nx s') (hf : ∀ s, P L.length s → ∃ r, fin L.length s = some r ∧ Q r) :
    ∀ (l : List α) (c : Nat) (s : σ), (∀ x ∈ l, x ∈ L) → c + l.length = L.length → P c s → ∃ r, loopL st fin l c s = some r ∧ Q r
  | [], c, s, _, h, hp => by
    have : c = L.length := by simpa using h
    subst this
    rw [loopL]; exact hf s hp
  | x :: l, c, s, hm, h, hp => by
    rw [List.length_cons] at h
    obtain ⟨s', h1, e⟩ := hs (fun s' => loopL st fin l (c + 1) s') c x s (hm x (by simp)) (by omega) hp
    rw [loopL, e]
    exact loop_mem L P Q st fin hs hf l (c + 1) s' (fun y hy => hm y (List.mem_cons_of_mem _ hy)) (by omega) h1

theorem m_state (F : Nat) (s : Stt) (h1 : s.log.length ≤ 1000) (h2 : s.lasts.length ≤ 1048576) (h3 : s.items.length ≤ 1000) (h4 : ∀ e ∈ s.log, e.Name.size ≤ 1048576) (h5 : ∀ e ∈ s.items, e.Name.size ≤ 1048576) :
    ∃ r, m_tholeref02_State F s.les s.tail s.log s.lasts s.items = some r := by
  obtain ⟨r1, e1, l1⟩ := m_int F [] s.les (by simp)
  obtain ⟨r2, e2, l2⟩ := m_ver F r1 (S_api_Version.mk s.tail.Epoch s.tail.N) (by rw [List.length_nil] at l1; omega)
  rw [List.length_nil] at l1
  obtain ⟨r3, e3, l3⟩ := m_count F r2 ((s.log.length : Nat) : Int) (by omega)
  have key : ∃ r, m_tholeref02_PutState F [] s.les (S_api_Version.mk s.tail.Epoch s.tail.N) s.log s.lasts s.items = some r ∧ True := by
    unfold m_tholeref02_PutState
    rw [e1, Option.bind_some, e2, Option.bind_some, e3, Option.bind_some, grd_pos _ (by unfold Len; omega)]
    refine loop_mem s.log (fun c (r : List UInt8) => r.length ≤ 100 + c * 1048700) _ _ _ (fun nx c x r hx hc hp => ?_) (fun r hp => ?_) s.log 0 r3 (fun _ h => h) (by simp) (by omega)
    · have : c * 1048700 ≤ 1000 * 1048700 := Nat.mul_le_mul_right _ (by omega)
      obtain ⟨q, g1, g2⟩ := m_entryb F r x (by omega) (h4 x hx)
      rw [g1, Option.bind_some]
      exact ⟨q, by omega, rfl⟩
    have b1 : s.log.length * 1048700 ≤ 1000 * 1048700 := Nat.mul_le_mul_right _ (by omega)
    obtain ⟨r4, e4, l4⟩ := m_count F r ((s.lasts.length : Nat) : Int) (by omega)
    rw [e4, Option.bind_some, grd_pos _ (by unfold Len; omega)]
    refine loop_mem s.lasts (fun c (r : List UInt8) => r.length ≤ 2000000000 + c * 100) _ _ _ (fun nx c x r hx hc hp => ?_) (fun r hp => ?_) s.lasts 0 r4 (fun _ h => h) (by simp) (by omega)
    · obtain ⟨q, g1, g2⟩ := m_lastb F r x (by omega)
      rw [g1, Option.bind_some]
      exact ⟨q, by omega, rfl⟩
    obtain ⟨r5, e5, l5⟩ := m_count F r ((s.items.length : Nat) : Int) (by omega)
    rw [e5, Option.bind_some, grd_pos _ (by unfold Len; omega)]
    refine loop_mem s.items (fun c (r : List UInt8) => r.length ≤ 3000000000 + c * 1048700) _ _ _ (fun nx c x r hx hc hp => ?_) (fun r hp => ⟨r, rfl, trivial⟩) s.items 0 r5 (fun _ h => h) (by simp) (by omega)
    have : c * 1048700 ≤ 1000 * 1048700 := Nat.mul_le_mul_right _ (by omega)
    obtain ⟨q, g1, g2⟩ := m_itemb F r x (by omega) (h5 x hx)
    rw [g1, Option.bind_some]
    exact ⟨q, by omega, rfl⟩
  obtain ⟨r, hr, _⟩ := key
  unfold m_tholeref02_State
  rw [hr, Option.bind_some]
  exact ⟨_, rfl⟩

theorem loop_same {α β ρ : Type} (f : α → β) (l2 : List β) (d : β) (st : (Unit → Option ρ) → Nat → α → Unit → Option ρ) (fin : Nat → Unit → Option ρ) (r : Option ρ)
    (hs : ∀ nx c x, c < l2.length → l2.getD c d = f x → st nx c x () = nx ()) (hf : ∀ c, fin c () = r) :
    ∀ (l : List α) (c : Nat), l2.drop c = l.map f → loopL st fin l c () = r
  | [], c, h => by rw [loopL, hf]
  | x :: l, c, h => by
    have hc : c < l2.length := by
      by_cases hc : c < l2.length
      · exact hc
      · rw [List.drop_eq_nil_of_le (by omega)] at h; simp at h
    rw [List.drop_eq_getElem_cons hc, List.map_cons] at h
    rw [loopL, hs _ _ _ hc (by rw [List.getD, List.getElem?_eq_getElem hc]; exact (List.cons.inj h).1)]
    exact loop_same f l2 d st fin r hs hf l (c + 1) (List.cons.inj h).2
theorem m_items_self (F : Nat) (l : List Itm) (h : l.length ≤ 1000000) : m_tholelaw14_items F l l = some true := by
  simp only [m_tholelaw14_items]
  rw [show (((l.length : Nat) : Int) != ((l.length : Nat) : Int)) = false by simp, cond_false, grd_pos _ (by unfold Len; omega)]
  refine loop_same id l dS_api_Item _ _ _ (fun nx c x hc hx => ?_) (fun c => rfl) l 0 (by simp)
  rw [grd_pos _ hc, hx, show S_api_Item.beq x (id x) = true from (S_api_Item.beq_iff x x).2 rfl]
  rfl
theorem m_texts_self (F : Nat) (l : List ByteArray) (h : l.length ≤ 1000000) : m_tholeref01_Texts F l l = some true := by
  simp only [m_tholeref01_Texts]
  rw [show (((l.length : Nat) : Int) != ((l.length : Nat) : Int)) = false by simp, cond_false, grd_pos _ (by unfold Len; omega)]
  refine loop_same id l (ByteArray.mk #[]) _ _ _ (fun nx c x hc hx => ?_) (fun c => rfl) l 0 (by simp)
  rw [grd_pos _ hc, hx, show (x.toList == (id x).toList) = true from str_tl_self x]
  rfl
theorem DD_len (a b : Stt) : (DD a b).1.length ≤ a.log.length + b.log.length ∧ (DD a b).2.1.length ≤ a.log.length + b.log.length := by
  have h0 := TT_len a b
  have h1 := flat_len (dPull a.items b.items) (fun x => bif_len _ _) (TT a b)
  have h2 := flat_len (dDrop a.items b.items) (fun x => bif_len _ _) (TT a b)
  unfold DD
  cases (commonF a b).2
  · simp
  · simp only [cond_true]; omega

theorem law_diffs (n : Nat) (a b : Stt) (ha : a.log.length ≤ 1048576) (ha2 : a.lasts.length ≤ 1048576) (ha3 : a.items.length ≤ 1048576) (hb : b.log.length ≤ 1048576) (hb2 : b.lasts.length ≤ 1048576) (hb3 : b.items.length ≤ 1048576)
    (na : ∀ e ∈ a.log, e.Name.size ≤ 1048576) (na2 : ∀ e ∈ a.items, e.Name.size ≤ 1048576) (nb : ∀ e ∈ b.log, e.Name.size ≤ 1048576) (nb2 : ∀ e ∈ b.items, e.Name.size ≤ 1048576) :
    m_tholelaw14_MissingDiffs (n + 1000) a.les a.tail a.log a.lasts a.items b.les b.tail b.log b.lasts b.items = some true := by
  unfold m_tholelaw14_MissingDiffs
  have hf : ∃ q, m_tholelaw14_far (n + 1000) a.les a.tail a.log a.lasts a.items b.les b.tail b.log b.lasts b.items = some q ∧ (q = false → a.log.length + b.log.length + a.items.length + b.items.length ≤ 400) := by
    unfold m_tholelaw14_far
    rw [grd_pos _ (by unfold I64; omega), grd_pos _ (by unfold I64; omega), grd_pos _ (by unfold I64; omega)]
    exact ⟨_, rfl, fun h => by have := of_decide_eq_false h; omega⟩
  obtain ⟨q, hq, hq2⟩ := hf
  rw [hq, Option.bind_some, awake14]
  cases q with
  | true => rw [cond_true, Option.bind_some]
  | false =>
    have hs := hq2 rfl
    obtain ⟨ra, ea⟩ := m_state (n + 1000) a (by omega) ha2 (by omega) na na2
    obtain ⟨rb, eb⟩ := m_state (n + 1000) b (by omega) hb2 (by omega) nb nb2
    obtain ⟨d1, d2⟩ := DD_len a b
    have hT := TT_len a b
    rw [cond_false, ea, Option.bind_some, eb, Option.bind_some, m_cdiff _ a b (by omega) (by omega) (by omega) (by omega), Option.bind_some, m_refdiff _ a b (by omega) (by omega) (by omega) (by omega), Option.bind_some]
    rw [jn_to false (fun J => by
      rw [m_items_self _ _ (by omega), Option.bind_some, Bool.not_true, cond_false, m_texts_self _ _ (by omega), Option.bind_some, Bool.not_true, cond_false, beq_self_eq_true, Bool.not_true, cond_false,
        m_ctouched _ a b (by omega) (by omega), Option.bind_some, m_touched _ a b (by omega) (by omega), Option.bind_some, m_texts_self _ _ (by omega), Option.bind_some, Bool.not_true])]
    rw [cond_false, grd_pos _ (by omega)]
    refine loop_fill _ _ (some true) (DD a b).1.length (fun c l hl => ?_) _ 0 (DD a b).1 rfl (by omega)
    rw [Option.bind_some, beq_self_eq_true, cond_true, Option.bind_some, beq_self_eq_true, cond_true, Option.bind_some]

end Go.Proofs.Ytdelhcdknglibaa
