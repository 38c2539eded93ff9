/-
  CHAPTER 01: plain facts on the models: the hashes of numbers and of names.
-/
import Derived.Test.YtmjlfdllpnkgoaaM01
set_option linter.unusedVariables false
set_option linter.unusedSimpArgs false
set_option maxRecDepth 1000000
namespace Go.Proofs.Ytmjlfdllpnkgoaa
open Go Go.RowKit Sx

theorem livesN (n : Nat) : m_tholelaw01_lives (n + 1000) = some true := by kernel_rfl

theorem mix_ex (F : Nat) (t : S_tholeref01_Three) : ∃ r, m_tholeref01_Mix F t = some r := ⟨_, rfl⟩
theorem m_trio (F : Nat) (a b c : Int) : m___digest_trio__mix F a b c = (m_tholeref01_Mix F (S_tholeref01_Three.mk a b c)).bind fun t => some (t.A, t.B, t.C) := by
  simp only [m___digest_trio__mix, m_tholeref01_Mix, Option.bind_assoc]
  refine congrArg (Option.bind _) (funext fun y1 => ?_)
  refine congrArg (Option.bind _) (funext fun y2 => ?_)
  refine congrArg (Option.bind _) (funext fun y3 => ?_)
  refine congrArg (Option.bind _) (funext fun y4 => ?_)
  refine congrArg (Option.bind _) (funext fun y5 => ?_)
  refine congrArg (Option.bind _) (funext fun y6 => ?_)
  rfl
theorem m_trio' {F : Nat} {a b c : Int} {t : S_tholeref01_Three} (h : m_tholeref01_Mix F (S_tholeref01_Three.mk a b c) = some t) : m___digest_trio__mix F a b c = some (t.A, t.B, t.C) := by
  rw [m_trio, h, Option.bind_some]
theorem m_mix' {F : Nat} {a b c : Int} {t : S_tholeref01_Three} (h : m_tholeref01_Mix F (S_tholeref01_Three.mk a b c) = some t) : m_digest_mix F a b c = some (t.A, t.B, t.C) := by
  rw [m_digest_mix, m_trio' h, Option.bind_some]

theorem m_hash1 (F : Nat) (e : S_digest_Engine) (a : Int) : ∃ r, m___digest_Engine__Hash1 F e a = some r ∧ m_tholeref01_Hash1 F a = some r := by
  simp only [m___digest_Engine__Hash1, m_tholeref01_Hash1]
  obtain ⟨t, ht⟩ := mix_ex F (S_tholeref01_Three.mk a 231232 (ixor .u32 1315423911 a))
  rw [m_mix' ht, ht, Option.bind_some, Option.bind_some]
  obtain ⟨u, hu⟩ := mix_ex F (S_tholeref01_Three.mk 1232 a t.C)
  rw [m_mix' hu, hu]
  exact ⟨_, rfl, rfl⟩
theorem m_hash2 (F : Nat) (e : S_digest_Engine) (a b : Int) : ∃ r, m___digest_Engine__Hash2 F e a b = some r ∧ m_tholeref01_Hash2 F a b = some r := by
  simp only [m___digest_Engine__Hash2, m_tholeref01_Hash2]
  obtain ⟨t, ht⟩ := mix_ex F (S_tholeref01_Three.mk a b (ixor .u32 (ixor .u32 1315423911 a) b))
  rw [m_mix' ht, ht, Option.bind_some, Option.bind_some]
  obtain ⟨u, hu⟩ := mix_ex F (S_tholeref01_Three.mk 231232 t.A t.C)
  rw [m_mix' hu, hu, Option.bind_some, Option.bind_some]
  obtain ⟨v, hv⟩ := mix_ex F (S_tholeref01_Three.mk t.B 1232 u.C)
  rw [m_mix' hv, hv]
  exact ⟨_, rfl, rfl⟩
theorem m_hash3 (F : Nat) (e : S_digest_Engine) (a b c : Int) : ∃ r, m___digest_Engine__Hash3 F e a b c = some r ∧ m_tholeref01_Hash3 F a b c = some r := by
  simp only [m___digest_Engine__Hash3, m_tholeref01_Hash3]
  obtain ⟨t, ht⟩ := mix_ex F (S_tholeref01_Three.mk a b (ixor .u32 (ixor .u32 (ixor .u32 1315423911 a) b) c))
  rw [m_mix' ht, ht, Option.bind_some, Option.bind_some]
  obtain ⟨u, hu⟩ := mix_ex F (S_tholeref01_Three.mk c 231232 t.C)
  rw [m_mix' hu, hu, Option.bind_some, Option.bind_some]
  obtain ⟨v, hv⟩ := mix_ex F (S_tholeref01_Three.mk 1232 t.A u.C)
  rw [m_mix' hv, hv, Option.bind_some, Option.bind_some]
  obtain ⟨w, hw⟩ := mix_ex F (S_tholeref01_Three.mk t.B u.B v.C)
  rw [m_mix' hw, hw, Option.bind_some, Option.bind_some]
  obtain ⟨x, hx⟩ := mix_ex F (S_tholeref01_Three.mk v.A u.A w.C)
  rw [m_mix' hx, hx]
  exact ⟨_, rfl, rfl⟩

theorem law_hashes (a b c : Int) : m_tholelaw01_DigestHashes (0 + 1000) a b c = some true := by
  simp only [m_tholelaw01_DigestHashes]
  rw [show m_digest_New (0 + 1000) = some _ from rfl, Option.bind_some]
  obtain ⟨r, h1, h2⟩ := m_hash1 (0 + 1000) _ a
  rw [h1, h2, Option.bind_some, Option.bind_some, beq_self_eq_true, cond_true]
  obtain ⟨r, h1, h2⟩ := m_hash2 (0 + 1000) _ a b
  rw [h1, h2, Option.bind_some, Option.bind_some, beq_self_eq_true, cond_true]
  obtain ⟨r, h1, h2⟩ := m_hash3 (0 + 1000) _ a b c
  rw [h1, h2, Option.bind_some, Option.bind_some, beq_self_eq_true, cond_true]
  rw [m___digest_Engine__Calls, grd_pos _ (by simp), Option.bind_some, show ((0 : Int) == 0) = true from rfl, cond_true, livesN, Option.bind_some]

/-! ### Words -/
def bts (s : ByteArray) : List UInt8 := s.data.toList
/-- Bytes as a number, the lowest first. -/
def W : List UInt8 → Nat
  | [] => 0
  | b :: r => b.toNat + 256 * W r
theorem W_lt : ∀ l : List UInt8, W l < 256 ^ l.length
  | [] => by simp [W]
  | b :: r => by
    have := W_lt r
    have hb := b.toNat_lt
    rw [W, List.length_cons, Nat.pow_succ]
    omega
theorem W_snoc (b : UInt8) : ∀ l : List UInt8, W (l ++ [b]) = W l + b.toNat * 256 ^ l.length
  | [] => by simp [W]
  | c :: r => by
    rw [List.cons_append, W, W, W_snoc b r, List.length_cons, Nat.pow_succ, Nat.mul_add, ← Nat.add_assoc]
    congr 1
    rw [Nat.mul_comm 256, Nat.mul_assoc]

theorem ior_add {a m k : Nat} (ha : a < 2 ^ k) (h : a + m * 2 ^ k < 4294967296) : ior .u32 (a : Int) ((m * 2 ^ k : Nat) : Int) = ((a + m * 2 ^ k : Nat) : Int) := by
  unfold ior
  have e : (BitVec.ofInt IntKind.u32.bits (a : Int) ||| BitVec.ofInt IntKind.u32.bits ((m * 2 ^ k : Nat) : Int)).toNat = a + m * 2 ^ k := by
    have hb : IntKind.u32.bits = 32 := rfl
    rw [BitVec.toNat_or, hb, BitVec.ofInt_natCast, BitVec.ofInt_natCast, BitVec.toNat_ofNat, BitVec.toNat_ofNat, Nat.mod_eq_of_lt (by omega), Nat.mod_eq_of_lt (by omega), Nat.or_comm]
    have := Nat.two_pow_add_eq_or_of_lt ha m
    rw [Nat.mul_comm m, ← this, Nat.add_comm]
  rw [e, wrap_u32 (by omega) (by omega)]

theorem loopC_to {σ ρ : Type} (Q : Nat → σ → Prop) (n : Nat) (r : Option ρ) (st : (σ → Option ρ) → Nat → σ → Option ρ) (fin : Nat → σ → Option ρ)
    (hs : ∀ nx c s, c < n → Q c s → ∃ s', Q (c + 1) s' ∧ st nx c s = nx s') (hf : ∀ s, Q n s → fin n s = r) : ∀ (k c : Nat) (s : σ), c + k = n → Q c s → loopC st fin k c s = r
  | 0, c, s, h, hq => by
    obtain rfl : c = n := by omega
    rw [loopC, hf s hq]
  | k + 1, c, s, h, hq => by
    obtain ⟨s', h1, e⟩ := hs (fun s' => loopC st fin k (c + 1) s') c s (by omega) hq
    rw [loopC, e, loopC_to Q n r st fin hs hf k (c + 1) s' (by omega) h1]

theorem take_succ_bts {s : ByteArray} {c : Nat} (h : c < s.size) : (bts s).take (c + 1) = (bts s).take c ++ [s.data.getD c 0] := by
  have hl : c < (bts s).length := by simpa [bts] using h
  rw [List.take_succ_eq_append_getElem hl]
  congr 2
  have hc : c < s.data.size := h
  simp [bts, Array.getD, hc]
  intro h'
  omega
theorem bts_len (s : ByteArray) : (bts s).length = s.size := by simp [bts]

theorem m_word (F : Nat) (s : ByteArray) : m_digest_word F s = some ((W ((bts s).take 4) : Nat) : Int) := by
  simp only [m_digest_word]
  obtain ⟨n, hn, hn4, hns⟩ : ∃ n : Nat, (if 4 < ((s.size : Nat) : Int) then (4 : Int) else ((s.size : Nat) : Int)) = n ∧ n ≤ 4 ∧ n = min 4 s.size := by
    refine ⟨min 4 s.size, ?_, by omega, rfl⟩
    split <;> omega
  rw [hn, grd_pos _ (by omega), show Int.toNat ((n : Int) - ((0 : Nat) : Int)) = n by omega]
  refine loopC_to (ρ := Int) (fun c v => v = ((W ((bts s).take c) : Nat) : Int)) n _ _ _ (fun nx c v hc hq => ?_) (fun v hv => ?_) n 0 0 (by omega) (by simp [W])
  rotate_left
  · subst hv
    congr 3
    by_cases h : s.size ≤ 4
    · rw [show n = s.size by omega, List.take_of_length_le (by rw [bts_len]; omega), List.take_of_length_le (by rw [bts_len]; exact h)]
    · rw [show n = 4 by omega]
  · subst hq
    have hcs : c < s.size := by omega
    have hl : ((bts s).take c).length = c := by rw [List.length_take, bts_len]; omega
    have hw := W_lt ((bts s).take c)
    have hb := (s.data.getD c 0).toNat_lt
    rw [hl] at hw
    have hp : (256 : Nat) ^ c = 2 ^ (8 * c) := by rw [show (256 : Nat) = 2 ^ 8 by decide, ← Nat.pow_mul]
    have hbd : 256 ^ c * 256 ≤ 4294967296 := by
      rw [← Nat.pow_succ]; exact Nat.le_trans (Nat.pow_le_pow_right (by decide) (show c.succ ≤ 4 by omega)) (by decide)
    refine ⟨_, rfl, ?_⟩
    rw [take_succ_bts hcs, W_snoc, hl, grd_pos _ hcs, grd_pos _ (by unfold I64; omega), grd_pos _ (by omega), show (min (Int.toNat (8 * (c : Int))) 32) = 8 * c by omega, wrap_u32 (x := (((s.data.getD c 0).toNat : Nat) : Int)) (by omega) (by omega)]
    generalize (s.data.getD c 0).toNat = m at *
    have hmul : m * 256 ^ c ≤ 255 * 256 ^ c := Nat.mul_le_mul_right _ (by omega)
    rw [show ((m : Int) * 2 ^ (8 * c)) = ((m * 2 ^ (8 * c) : Nat) : Int) by push_cast; rfl, wrap_u32 (by omega) (by rw [← hp]; omega)]
    rw [ior_add (by rw [← hp]; exact hw) (by rw [← hp]; omega), Option.bind_some, hp]

theorem m_four (F : Nat) (s : ByteArray) (sh : Nat) (h : 8 * s.size + sh ≤ 32) : m_tholeref01_four F s (sh : Int) = some ((W (bts s) * 2 ^ sh : Nat) : Int) := by
  simp only [m_tholeref01_four]
  rw [grd_pos _ (by omega), show Int.toNat (((s.size : Nat) : Int) - ((0 : Nat) : Int)) = s.size by omega]
  refine loopC_to (ρ := Int) (fun c v => v = ((W ((bts s).take c) * 2 ^ sh : Nat) : Int)) s.size _ _ _ (fun nx c v hc hq => ?_) (fun v hv => ?_) s.size 0 0 (by omega) (by simp [W])
  rotate_left
  · subst hv
    rw [List.take_of_length_le (by rw [bts_len]; omega)]
  · subst hq
    have hl : ((bts s).take c).length = c := by rw [List.length_take, bts_len]; omega
    have hw := W_lt ((bts s).take (c + 1))
    rw [show ((bts s).take (c + 1)).length = c + 1 by rw [List.length_take, bts_len]; omega] at hw
    have hp : (256 : Nat) ^ c = 2 ^ (8 * c) := by rw [show (256 : Nat) = 2 ^ 8 by decide, ← Nat.pow_mul]
    have hbd : 256 ^ (c + 1) * 2 ^ sh ≤ 4294967296 := by
      rw [show (256 : Nat) = 2 ^ 8 by decide, ← Nat.pow_mul, ← Nat.pow_add]
      exact Nat.le_trans (Nat.pow_le_pow_right (by decide) (show 8 * (c + 1) + sh ≤ 32 by omega)) (by decide)
    have hws : W ((bts s).take (c + 1)) * 2 ^ sh < 4294967296 := Nat.lt_of_lt_of_le (Nat.mul_lt_mul_of_pos_right hw (Nat.two_pow_pos sh)) hbd
    refine ⟨_, rfl, ?_⟩
    rw [take_succ_bts hc, W_snoc, hl, Nat.add_mul] at hws ⊢
    rw [grd_pos _ hc, grd_pos _ (by unfold I64; omega), wrap_u64 (x := 8 * (c : Int)) (by omega) (by omega), wrap_u64 (by omega) (by omega), grd_pos _ (by omega), show (min (Int.toNat ((sh : Int) + 8 * (c : Int))) 32) = sh + 8 * c by omega]
    have hb := (s.data.getD c 0).toNat_lt
    rw [wrap_u32 (x := (((s.data.getD c 0).toNat : Nat) : Int)) (by omega) (by omega)]
    generalize (s.data.getD c 0).toNat = m at *
    have e2 : m * 256 ^ c * 2 ^ sh = m * 2 ^ (sh + 8 * c) := by rw [hp, Nat.mul_assoc, ← Nat.pow_add, Nat.add_comm]
    rw [e2] at hws ⊢
    rw [show ((m : Int) * 2 ^ (sh + 8 * c)) = ((m * 2 ^ (sh + 8 * c) : Nat) : Int) by push_cast; rfl, wrap_u32 (x := ((m * 2 ^ (sh + 8 * c) : Nat) : Int)) (by omega) (by omega), wrap_u32 (by omega) (by omega), Option.bind_some]
    congr 1

end Go.Proofs.Ytmjlfdllpnkgoaa
