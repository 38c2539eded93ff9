/-
  CHAPTER 01: plain facts on the models: the laws DigestSums and DigestTells.
-/
import Derived.Test.YtmjlfdllpnkgoaaP01a
import Derived.Test.YtmjlfdllpnkgoaaP01f
set_option linter.unusedVariables false
set_option linter.unusedSimpArgs false
set_option maxRecDepth 1000000
namespace Go.Proofs.Ytmjlfdllpnkgoaa
open Go Go.RowKit Sx

def newE : S_digest_Engine := S_digest_Engine.mk (S_sync_Once.mk (S_sync_noCopy.mk) (S_atomic_Bool.mk (S_atomic_noCopy.mk) 0) (S_sync_Mutex'.mk (S_sync_noCopy.mk) (S_sync_Mutex.mk 0 0))) (List.replicate 256 0) (S_atomic_Int64.mk (S_atomic_noCopy.mk) (S_atomic_align64.mk) 0)
theorem m_new (F : Nat) : m_digest_New F = some newE := rfl
theorem newE_good : GoodE newE := ⟨rfl, rfl, .inl ⟨rfl, rfl⟩⟩
/-- The engine behind a sum. -/
def nextE (c : Int) : S_digest_Engine := madeE (IntKind.i64.wrap (c + 1))
theorem crc_new (b : List UInt8) (hb : b.length ≤ 20000) : m___digest_Engine__Crc 1000 newE b = some (((crcF b : Nat) : Int), madeE 1) := m_crc 1000 newE newE_good b (by omega)
theorem wrap_inc {c : Nat} (h : c < 100) : IntKind.i64.wrap ((c : Int) + 1) = ((c + 1 : Nat) : Int) := wrap_i64 (by omega) (by omega)
theorem crc_made (c : Nat) (hc : c < 100) (b : List UInt8) (hb : b.length ≤ 20000) : m___digest_Engine__Crc 1000 (madeE (c : Int)) b = some (((crcF b : Nat) : Int), madeE ((c + 1 : Nat) : Int)) := by
  rw [m_crc 1000 _ (GoodE.made _) b (by omega)]
  show some (_, madeE (IntKind.i64.wrap ((c : Int) + 1))) = _
  rw [wrap_inc hc]
theorem sha_made (c : Nat) (hc : c < 100) (b : List UInt8) (hb : b.length ≤ 20000) : m___digest_Engine__Sha 1000 (madeE (c : Int)) b = some (SHA b, madeE ((c + 1 : Nat) : Int)) := by
  rw [m_sha _ TBL_len b hb]
  show some (_, madeE (IntKind.i64.wrap ((c : Int) + 1))) = _
  rw [wrap_inc hc]
theorem calls_made (c : Int) : m___digest_Engine__Calls 1000 (madeE c) = some (c, madeE c) := by
  rw [m___digest_Engine__Calls, grd_pos _ (show (madeE c).table.length = 256 from TBL_len)]; rfl

/-! ### What is lent -/
theorem loop_lend {ρ : Type} (r : Option ρ) (b : List UInt8) (st : (List UInt8 → Option ρ) → Nat → UInt8 → List UInt8 → Option ρ) (fin : Nat → List UInt8 → Option ρ)
    (hs : ∀ nx c x s, c + 1 < s.length → st nx c x s = nx (s.set (c + 1) x)) (hf : ∀ c, fin c (165 :: (b ++ [90])) = r) :
    ∀ (l pre : List UInt8), b = pre ++ l → loopL st fin l pre.length (165 :: (pre ++ List.replicate l.length 0 ++ [90])) = r
  | [], pre, h => by
    rw [loopL, ← hf pre.length, h, List.append_nil, List.length_nil, List.replicate_zero, List.append_nil]
  | x :: l, pre, h => by
    rw [loopL, hs _ _ _ _ (by simp)]
    have e : (165 :: (pre ++ List.replicate (x :: l).length 0 ++ [90])).set (pre.length + 1) x = 165 :: ((pre ++ [x]) ++ List.replicate l.length 0 ++ [90]) := by
      rw [List.set_cons_succ, List.append_assoc, List.set_append_right _ _ (Nat.le_refl _), Nat.sub_self, List.length_cons, List.replicate_succ, List.cons_append, List.set_cons_zero]
      simp
    have := loop_lend r b st fin hs hf l (pre ++ [x]) (by rw [h]; simp)
    rw [List.length_append, List.length_singleton] at this
    rw [e, this]
theorem m_lend (b : List UInt8) (hb : b.length ≤ 20000) : m_tholeref01_Lend 1000 b = some (165 :: (b ++ [90]), b) := by
  simp only [m_tholeref01_Lend, List.length_set, List.length_replicate]
  (repeat (rw [grd_pos _ (by first | assumption | omega | decide | exact wrap_u8_range _ | (unfold I64; omega) | (unfold Ix; omega) | (unfold Len; omega) | (unfold App; omega) | (simp only [List.length_set]; omega) | (simp only [List.length_append, List.length_cons, List.length_nil, App]; omega))]))
  have e : ((List.replicate (b.length + 2) (0 : UInt8)).set 0 165).set (b.length + 1) 90 = 165 :: (([] : List UInt8) ++ List.replicate b.length 0 ++ [90]) := by
    rw [List.replicate_succ, List.set_cons_zero, List.set_cons_succ, List.replicate_succ', List.set_append_right _ _ (by simp), List.length_replicate, Nat.sub_self]
    rfl
  rw [e]
  refine loop_lend _ b _ _ (fun nx c x s hc => ?_) (fun c => ?_) b [] rfl
  · rw [grd_pos _ hc]
  · have hl : (165 :: (b ++ [(90 : UInt8)])).length = b.length + 2 := by simp
    (repeat (rw [grd_pos _ (by first | assumption | omega | decide | exact wrap_u8_range _ | (unfold I64; omega) | (unfold Ix; omega) | (unfold Len; omega) | (unfold App; omega) | (simp only [List.length_set]; omega) | (simp only [List.length_append, List.length_cons, List.length_nil, App]; omega))]))
    rw [List.drop_succ_cons, List.drop_zero, Nat.add_sub_cancel, List.take_left' rfl]
theorem m_kept (b : List UInt8) (hb : b.length ≤ 20000) : m_tholeref01_Kept 1000 (165 :: (b ++ [90])) b = some true := by
  have hl : (165 :: (b ++ [(90 : UInt8)])).length = b.length + 2 := by simp
  have h1 : (165 :: (b ++ [(90 : UInt8)])).getD (b.length + 1) 0 = 90 := by
    rw [List.getD, List.getElem?_cons_succ, List.getElem?_append_right (Nat.le_refl _), Nat.sub_self]; rfl
  simp only [m_tholeref01_Kept]
  rw [grd_pos _ (by unfold Len; omega), hl, beq_self_eq_true, cond_true]
  (repeat (rw [grd_pos _ (by first | assumption | omega | decide | exact wrap_u8_range _ | (unfold I64; omega) | (unfold Ix; omega) | (unfold Len; omega) | (unfold App; omega) | (simp only [List.length_set]; omega) | (simp only [List.length_append, List.length_cons, List.length_nil, App]; omega))]))
  rw [show ((((165 :: (b ++ [(90 : UInt8)])).getD 0 0).toNat : Nat) : Int) = 165 from rfl, beq_self_eq_true, cond_true]
  (repeat (rw [grd_pos _ (by first | assumption | omega | decide | exact wrap_u8_range _ | (unfold I64; omega) | (unfold Ix; omega) | (unfold Len; omega) | (unfold App; omega) | (simp only [List.length_set]; omega) | (simp only [List.length_append, List.length_cons, List.length_nil, App]; omega))]))
  rw [h1, show ((((90 : UInt8)).toNat : Nat) : Int) = 90 from rfl, beq_self_eq_true, cond_true]
  (repeat (rw [grd_pos _ (by first | assumption | omega | decide | exact wrap_u8_range _ | (unfold I64; omega) | (unfold Ix; omega) | (unfold Len; omega) | (unfold App; omega) | (simp only [List.length_set]; omega) | (simp only [List.length_append, List.length_cons, List.length_nil, App]; omega))]))
  rw [List.drop_succ_cons, List.drop_zero, Nat.add_sub_cancel, List.take_left' rfl, beq_self_eq_true]

theorem law_sums (b : List UInt8) : m_tholelaw01_DigestSums 1000 b = some true := by
  simp only [m_tholelaw01_DigestSums]
  rw [m_new, Option.bind_some]
  by_cases hb : ((b.length : Nat) : Int) > 20000
  · rw [decide_eq_true hb, cond_true, lives01, Option.bind_some]
  have hb' : b.length ≤ 20000 := by omega
  rw [decide_eq_false hb, cond_false, m_lend b hb', Option.bind_some, crc_new b hb', Option.bind_some, m_refcrc 1000 b (by omega), Option.bind_some, beq_self_eq_true, cond_true]
  rw [show madeE 1 = madeE ((1 : Nat) : Int) from rfl, sha_made 1 (by decide) b hb', Option.bind_some, r_sha b hb', Option.bind_some, grd_pos _ (SHA_len b), grd_pos _ (SHA_len b), beq_self_eq_true, cond_true]
  rw [calls_made, Option.bind_some, show ((((1 + 1 : Nat) : Int) == 2) = true) from rfl, cond_true, m_kept b hb', Option.bind_some, cond_true, lives01, Option.bind_some]

theorem law_tells (b : List UInt8) (a c : Int) (ha : 0 ≤ a) (hc : 0 ≤ c ∧ c < 256) : m_tholelaw01_DigestTells 1000 b a c = some true := by
  simp only [m_tholelaw01_DigestTells, List.nil_append, List.length_nil, Nat.zero_add]
  rw [m_new, Option.bind_some]
  unfold jn
  dsimp only
  by_cases h0 : b.length = 0
  · rw [show (((b.length : Nat) : Int) == 0) = true by rw [h0]; rfl, cond_true, cond_true, lives01, Option.bind_some]
  rw [show (((b.length : Nat) : Int) == 0) = false by rw [beq_eq_false_iff_ne]; omega, cond_false]
  by_cases hb : ((b.length : Nat) : Int) > 20000
  · rw [decide_eq_true hb, cond_true, lives01, Option.bind_some]
  have hb' : b.length ≤ 20000 := by omega
  rw [decide_eq_false hb, cond_false, wrap_u64 (x := ((b.length : Nat) : Int)) (by omega) (by omega)]
  have hm1 : 0 ≤ Int.tmod a ((b.length : Nat) : Int) := Int.tmod_nonneg _ ha
  have hm2 : Int.tmod a ((b.length : Nat) : Int) < ((b.length : Nat) : Int) := Int.tmod_lt_of_pos _ (by omega)
  rw [wrap_i64 (by omega) (by omega)]
  generalize Int.tmod a ((b.length : Nat) : Int) = i at hm1 hm2 ⊢
  obtain ⟨k, rfl⟩ : ∃ k : Nat, i = k := ⟨i.toNat, (Int.toNat_of_nonneg hm1).symm⟩
  rw [Int.toNat_natCast]
  obtain ⟨x, rfl⟩ : ∃ x : UInt8, c = ((x.toNat : Nat) : Int) := ⟨UInt8.ofNat c.toNat, by rw [UInt8.toNat_ofNat_of_lt' (by show c.toNat < 256; omega)]; omega⟩
  rw [Int.toNat_natCast, UInt8.ofNat_toNat]
  have hk : k < b.length := by omega
  have hlen : (b.set k x).length ≤ 20000 := by rw [List.length_set]; exact hb'
  (repeat (rw [grd_pos _ (by first | assumption | omega | decide | exact wrap_u8_range _ | (unfold I64; omega) | (unfold Ix; omega) | (unfold Len; omega) | (unfold App; omega) | (simp only [List.length_set]; omega) | (simp only [List.length_append, List.length_cons, List.length_nil, App]; omega))]))
  rw [crc_new b hb', Option.bind_some, show madeE 1 = madeE ((1 : Nat) : Int) from rfl, crc_made 1 (by decide) _ hlen, Option.bind_some]
  by_cases hx : x = b.getD k 0
  · have e : b.set k x = b := by
      rw [hx, List.getD, List.getElem?_eq_getElem hk, Option.getD_some, List.set_getElem_self]
    rw [e, ← hx, beq_self_eq_true, beq_self_eq_true, beq_self_eq_true, cond_true, Bool.not_true, cond_false]
    rw [sha_made (1 + 1) (by decide) b hb', Option.bind_some, sha_made (1 + 1 + 1) (by decide) b hb', Option.bind_some, grd_pos _ (SHA_len b), grd_pos _ (SHA_len b), beq_self_eq_true, cond_true]
    rw [crc_made (1 + 1 + 1 + 1) (by decide) b hb', Option.bind_some, Option.bind_some, crc_new b hb', Option.bind_some, beq_self_eq_true, cond_true, calls_made, Option.bind_some, decide_eq_true (by decide), cond_true, lives01, Option.bind_some]
  · have h1 : ((((crcF b : Nat) : Int) == ((crcF (b.set k x) : Nat) : Int))) = false := by
      rw [beq_eq_false_iff_ne]
      intro h
      exact hx (crc_tells b k x hk (Int.ofNat_inj.1 h).symm)
    have h2 : (((((b.getD k 0).toNat : Nat) : Int) == ((x.toNat : Nat) : Int))) = false := by
      rw [beq_eq_false_iff_ne]
      intro h
      exact hx (UInt8.toNat_inj.1 (Int.ofNat_inj.1 h)).symm
    rw [h1, h2, show ((false == false) = true) from rfl, cond_true, Bool.not_false, cond_true]
    rw [crc_made (1 + 1) (by decide) b hb', Option.bind_some, Option.bind_some, crc_new b hb', Option.bind_some, beq_self_eq_true, cond_true, calls_made, Option.bind_some, decide_eq_true (by decide), cond_true, lives01, Option.bind_some]

end Go.Proofs.Ytmjlfdllpnkgoaa
