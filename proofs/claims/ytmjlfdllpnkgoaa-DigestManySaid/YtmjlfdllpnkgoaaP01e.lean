/-
  CHAPTER 01: plain facts on the models: one block of SHA-256, of the engine and of the reference.
-/
import Derived.Test.YtmjlfdllpnkgoaaP01d
set_option linter.unusedVariables false
set_option linter.unusedSimpArgs false
set_option maxRecDepth 1000000
namespace Go.Proofs.Ytmjlfdllpnkgoaa
open Go Go.RowKit Sx

theorem ior_comm (k : IntKind) (a b : Int) : ior k a b = ior k b a := by unfold ior; rw [BitVec.or_comm]
theorem ixor_comm (k : IntKind) (a b : Int) : ixor k a b = ixor k b a := by unfold ixor; rw [BitVec.xor_comm]
def rot (x : Int) (k : Nat) : Int := ior .u32 (IntKind.u32.wrap (x * 2 ^ (32 - k))) (Int.fdiv x (2 ^ k))
theorem rl2 (F : Nat) (x : Int) : m_math_bits_RotateLeft32 F x (-2) = some (rot x 2) := by kernel_rfl
theorem rl6 (F : Nat) (x : Int) : m_math_bits_RotateLeft32 F x (-6) = some (rot x 6) := by kernel_rfl
theorem rl7 (F : Nat) (x : Int) : m_math_bits_RotateLeft32 F x (-7) = some (rot x 7) := by kernel_rfl
theorem rl11 (F : Nat) (x : Int) : m_math_bits_RotateLeft32 F x (-11) = some (rot x 11) := by kernel_rfl
theorem rl13 (F : Nat) (x : Int) : m_math_bits_RotateLeft32 F x (-13) = some (rot x 13) := by kernel_rfl
theorem rl17 (F : Nat) (x : Int) : m_math_bits_RotateLeft32 F x (-17) = some (rot x 17) := by kernel_rfl
theorem rl18 (F : Nat) (x : Int) : m_math_bits_RotateLeft32 F x (-18) = some (rot x 18) := by kernel_rfl
theorem rl19 (F : Nat) (x : Int) : m_math_bits_RotateLeft32 F x (-19) = some (rot x 19) := by kernel_rfl
theorem rl22 (F : Nat) (x : Int) : m_math_bits_RotateLeft32 F x (-22) = some (rot x 22) := by kernel_rfl
theorem rl25 (F : Nat) (x : Int) : m_math_bits_RotateLeft32 F x (-25) = some (rot x 25) := by kernel_rfl
theorem tn2 (F : Nat) (x : Int) : m_tholeref01_turn F x 2 = some (rot x 2) := by rw [rot, ior_comm]; kernel_rfl
theorem tn6 (F : Nat) (x : Int) : m_tholeref01_turn F x 6 = some (rot x 6) := by rw [rot, ior_comm]; kernel_rfl
theorem tn7 (F : Nat) (x : Int) : m_tholeref01_turn F x 7 = some (rot x 7) := by rw [rot, ior_comm]; kernel_rfl
theorem tn11 (F : Nat) (x : Int) : m_tholeref01_turn F x 11 = some (rot x 11) := by rw [rot, ior_comm]; kernel_rfl
theorem tn13 (F : Nat) (x : Int) : m_tholeref01_turn F x 13 = some (rot x 13) := by rw [rot, ior_comm]; kernel_rfl
theorem tn17 (F : Nat) (x : Int) : m_tholeref01_turn F x 17 = some (rot x 17) := by rw [rot, ior_comm]; kernel_rfl
theorem tn18 (F : Nat) (x : Int) : m_tholeref01_turn F x 18 = some (rot x 18) := by rw [rot, ior_comm]; kernel_rfl
theorem tn19 (F : Nat) (x : Int) : m_tholeref01_turn F x 19 = some (rot x 19) := by rw [rot, ior_comm]; kernel_rfl
theorem tn22 (F : Nat) (x : Int) : m_tholeref01_turn F x 22 = some (rot x 22) := by rw [rot, ior_comm]; kernel_rfl
theorem tn25 (F : Nat) (x : Int) : m_tholeref01_turn F x 25 = some (rot x 25) := by rw [rot, ior_comm]; kernel_rfl

/-! ### Words -/
def bN (l : List UInt8) (i : Nat) : Nat := (l.getD i 0).toNat
theorem bN_eq (l : List UInt8) (i : Nat) : (l.getD i 0).toNat = bN l i := rfl
theorem bN_lt (l : List UInt8) (i : Nat) : bN l i < 256 := (l.getD i 0).toNat_lt
def wdN (l : List UInt8) (i : Nat) : Nat := ((bN l (4 * i) * 256 + bN l (4 * i + 1)) * 256 + bN l (4 * i + 2)) * 256 + bN l (4 * i + 3)
theorem sh8 {n b : Nat} (hn : n < 2 ^ 24) (hb : b < 256) : ior .u32 (IntKind.u32.wrap ((n : Int) * 2 ^ 8)) (IntKind.u32.wrap (b : Int)) = ((n * 256 + b : Nat) : Int) := by
  rw [show (n : Int) * 2 ^ 8 = ((n * 2 ^ 8 : Nat) : Int) by rw [Int.natCast_mul]; rfl, wrap_u32 (by omega) (by omega), wrap_u32 (by omega) (by omega), ior_comm, ior_add (by omega) (by omega), Nat.add_comm]
theorem sh8_0 {b : Nat} (hb : b < 256) : ior .u32 (IntKind.u32.wrap ((0 : Int) * 2 ^ 8)) (IntKind.u32.wrap (b : Int)) = (b : Int) := by
  have := sh8 (n := 0) (by decide) hb
  rw [Nat.zero_mul, Nat.zero_add] at this
  exact this
theorem d_word (l : List UInt8) (i : Nat) : ior .u32 (ior .u32 (ior .u32 (IntKind.u32.wrap (IntKind.u32.wrap ((bN l (4 * i) : Nat) : Int) * 2 ^ 24)) (IntKind.u32.wrap (IntKind.u32.wrap ((bN l (4 * i + 1) : Nat) : Int) * 2 ^ 16))) (IntKind.u32.wrap (IntKind.u32.wrap ((bN l (4 * i + 2) : Nat) : Int) * 2 ^ 8))) (IntKind.u32.wrap ((bN l (4 * i + 3) : Nat) : Int)) = ((wdN l i : Nat) : Int) := by
  have h0 := bN_lt l (4 * i)
  have h1 := bN_lt l (4 * i + 1)
  have h2 := bN_lt l (4 * i + 2)
  have h3 := bN_lt l (4 * i + 3)
  unfold wdN
  generalize bN l (4 * i) = a at *
  generalize bN l (4 * i + 1) = b at *
  generalize bN l (4 * i + 2) = c at *
  generalize bN l (4 * i + 3) = d at *
  rw [wrap_u32 (x := (a : Int)) (by omega) (by omega), wrap_u32 (x := (b : Int)) (by omega) (by omega), wrap_u32 (x := (c : Int)) (by omega) (by omega), wrap_u32 (x := (d : Int)) (by omega) (by omega)]
  rw [show (a : Int) * 2 ^ 24 = ((a * 2 ^ 24 : Nat) : Int) by rw [Int.natCast_mul]; rfl, show (b : Int) * 2 ^ 16 = ((b * 2 ^ 16 : Nat) : Int) by rw [Int.natCast_mul]; rfl, show (c : Int) * 2 ^ 8 = ((c * 2 ^ 8 : Nat) : Int) by rw [Int.natCast_mul]; rfl]
  rw [wrap_u32 (by omega) (by omega), wrap_u32 (by omega) (by omega), wrap_u32 (by omega) (by omega)]
  rw [ior_comm .u32 ((a * 2 ^ 24 : Nat) : Int), ior_add (by omega) (by omega), show b * 2 ^ 16 + a * 2 ^ 24 = (b + a * 256) * 2 ^ 16 by omega, ior_comm .u32 (((b + a * 256) * 2 ^ 16 : Nat) : Int), ior_add (by omega) (by omega), show c * 2 ^ 8 + (b + a * 256) * 2 ^ 16 = (c + (b + a * 256) * 256) * 2 ^ 8 by omega, ior_comm, ior_add (by omega) (by omega)]
  exact congrArg Int.ofNat (by omega)

theorem getD_set {w : List Int} {k : Nat} (h : k < w.length) (v : Int) : (w.set k v).getD k 0 = v := by rw [List.getD, List.getElem?_set_self h]; rfl
theorem getD_set_ne {w : List Int} {k i : Nat} (h : k ≠ i) (v : Int) : (w.set k v).getD i 0 = w.getD i 0 := by rw [List.getD, List.getElem?_set_ne h]; rfl

/-! ### The schedule -/
def scV (l : List UInt8) (k : Nat) (w : List Int) : Int :=
  if k < 16 then ((wdN l k : Nat) : Int) else IntKind.u32.wrap (IntKind.u32.wrap (IntKind.u32.wrap (w.getD (k - 16) 0 + w.getD (k - 7) 0) + ixor .u32 (ixor .u32 (rot (w.getD (k - 15) 0) 7) (rot (w.getD (k - 15) 0) 18)) (Int.fdiv (w.getD (k - 15) 0) (2 ^ 3))) + ixor .u32 (ixor .u32 (rot (w.getD (k - 2) 0) 17) (rot (w.getD (k - 2) 0) 19)) (Int.fdiv (w.getD (k - 2) 0) (2 ^ 10)))
def sc (l : List UInt8) : Nat → List Int
  | 0 => List.replicate 64 0
  | k + 1 => (sc l k).set k (scV l k (sc l k))
theorem sc_len (l : List UInt8) : ∀ k, (sc l k).length = 64
  | 0 => List.length_replicate
  | k + 1 => by rw [sc, List.length_set, sc_len l k]
theorem sc_zero (l : List UInt8) : ∀ k i, k ≤ i → (sc l k).getD i 0 = 0
  | 0, i, _ => by rw [sc, List.getD, List.getElem?_replicate]; split <;> rfl
  | k + 1, i, h => by rw [sc, getD_set_ne (by omega), sc_zero l k i (by omega)]
theorem wrap_swap (a b c : Int) : IntKind.u32.wrap (IntKind.u32.wrap (a + b) + c) = IntKind.u32.wrap (IntKind.u32.wrap (a + c) + b) := by
  simp only [IntKind.wrap, IntKind.bits, IntKind.signed]
  simp
  omega

/-! ### The rounds -/
def rd (kk w : List Int) (k : Nat) (c : List Int) : List Int :=
  [(IntKind.u32.wrap ((IntKind.u32.wrap ((IntKind.u32.wrap ((IntKind.u32.wrap ((IntKind.u32.wrap ((c.getD 7 0) + (ixor .u32 (ixor .u32 (rot (c.getD 4 0) 6) (rot (c.getD 4 0) 11)) (rot (c.getD 4 0) 25)))) + (ixor .u32 (iand .u32 (c.getD 4 0) (c.getD 5 0)) (iand .u32 (ixor .u32 4294967295 (c.getD 4 0)) (c.getD 6 0))))) + (kk.getD k 0))) + (w.getD k 0))) + (IntKind.u32.wrap ((ixor .u32 (ixor .u32 (rot (c.getD 0 0) 2) (rot (c.getD 0 0) 13)) (rot (c.getD 0 0) 22)) + (ixor .u32 (ixor .u32 (iand .u32 (c.getD 0 0) (c.getD 1 0)) (iand .u32 (c.getD 0 0) (c.getD 2 0))) (iand .u32 (c.getD 1 0) (c.getD 2 0))))))), (c.getD 0 0), (c.getD 1 0), (c.getD 2 0), (IntKind.u32.wrap ((c.getD 3 0) + (IntKind.u32.wrap ((IntKind.u32.wrap ((IntKind.u32.wrap ((IntKind.u32.wrap ((c.getD 7 0) + (ixor .u32 (ixor .u32 (rot (c.getD 4 0) 6) (rot (c.getD 4 0) 11)) (rot (c.getD 4 0) 25)))) + (ixor .u32 (iand .u32 (c.getD 4 0) (c.getD 5 0)) (iand .u32 (ixor .u32 4294967295 (c.getD 4 0)) (c.getD 6 0))))) + (kk.getD k 0))) + (w.getD k 0))))), (c.getD 4 0), (c.getD 5 0), (c.getD 6 0)]
def rds (kk w h : List Int) : Nat → List Int
  | 0 => h
  | k + 1 => rd kk w k (rds kk w h k)
theorem rds_len (kk w : List Int) {h : List Int} (hh : h.length = 8) : ∀ k, (rds kk w h k).length = 8
  | 0 => hh
  | k + 1 => rfl
def ad (h c : List Int) : Nat → List Int
  | 0 => h
  | k + 1 => (ad h c k).set k (IntKind.u32.wrap ((ad h c k).getD k 0 + c.getD k 0))
theorem ad_len {h : List Int} (hh : h.length = 8) (c : List Int) : ∀ k, (ad h c k).length = 8
  | 0 => hh
  | k + 1 => by rw [ad, List.length_set, ad_len hh c k]
/-- What a block makes of the eight words. -/
def SB (kk h : List Int) (l : List UInt8) : List Int := ad h (rds kk (sc l 64) h 64) 8
theorem SB_len (kk : List Int) {h : List Int} (hh : h.length = 8) (l : List UInt8) : (SB kk h l).length = 8 := ad_len hh _ 8

theorem d_block (F : Nat) (kk h : List Int) (l : List UInt8) (hk : kk.length = 64) (hh : h.length = 8) (hl : l.length = 64) : m_digest_block F h kk l = some (SB kk h l) := by
  simp only [m_digest_block, rl2, rl6, rl7, rl11, rl13, rl17, rl18, rl19, rl22, rl25, Option.bind_some]
  rw [grd_pos _ (by decide), show Int.toNat (64 - ((0 : Nat) : Int)) = 64 by decide]
  refine loopC_to (fun k w => w = sc l k) 64 _ _ _ (fun nx k w hk hw => ?_) (fun w hw => ?_) 64 0 _ rfl rfl
  · have hw' := sc_len l k
    rw [← hw] at hw'
    by_cases h16 : k < 16
    · rw [show decide (((k : Nat) : Int) < 16) = true from decide_eq_true (by omega), cond_true]
      (repeat (rw [grd_pos _ (by first | assumption | omega | (unfold I64; omega) | (unfold Ix; omega) | (unfold Len; omega) | (unfold App; omega) | (simp only [List.length_set]; omega))]))
      refine ⟨_, ?_, rfl⟩
      rw [sc, scV, if_pos h16, ← d_word, ← hw, show Int.toNat (4 * ((k : Nat) : Int)) = 4 * k by omega, show Int.toNat (4 * ((k : Nat) : Int) + 1) = 4 * k + 1 by omega, show Int.toNat (4 * ((k : Nat) : Int) + 2) = 4 * k + 2 by omega, show Int.toNat (4 * ((k : Nat) : Int) + 3) = 4 * k + 3 by omega]
      rfl
    · rw [show decide (((k : Nat) : Int) < 16) = false from decide_eq_false (by omega), cond_false]
      (repeat (rw [grd_pos _ (by first | assumption | omega | (unfold I64; omega) | (unfold Ix; omega) | (unfold Len; omega) | (unfold App; omega) | (simp only [List.length_set]; omega))]))
      refine ⟨_, ?_, rfl⟩
      rw [sc, scV, if_neg h16, ← hw, show Int.toNat (((k : Nat) : Int) - 15) = k - 15 by omega, show Int.toNat (((k : Nat) : Int) - 2) = k - 2 by omega, show Int.toNat (((k : Nat) : Int) - 16) = k - 16 by omega, show Int.toNat (((k : Nat) : Int) - 7) = k - 7 by omega]
  · have hw' := sc_len l 64
    rw [← hw] at hw'
    (repeat (rw [grd_pos _ (by first | assumption | omega | (unfold I64; omega) | (unfold Ix; omega) | (unfold Len; omega) | (unfold App; omega) | (simp only [List.length_set]; omega))]))
    refine loopC_to (fun k c => c = rds kk w h k) 64 _ _ _ (fun nx k c hk2 hc => ?_) (fun c hc => ?_) 64 0 _ rfl rfl
    · have hc' := rds_len kk w hh k
      rw [← hc] at hc'
      (repeat (rw [grd_pos _ (by first | assumption | omega | (unfold I64; omega) | (unfold Ix; omega) | (unfold Len; omega) | (unfold App; omega) | (simp only [List.length_set]; omega))]))
      refine ⟨_, ?_, rfl⟩
      rw [rds, rd, ← hc]
    · have hc' := rds_len kk w hh 64
      rw [← hc] at hc'
      rw [grd_pos _ (by decide), show Int.toNat (8 - ((0 : Nat) : Int)) = 8 by decide]
      refine loopC_to (fun k a => a = ad h c k) 8 _ _ _ (fun nx k a hk3 ha => ?_) (fun a ha => ?_) 8 0 _ rfl rfl
      · have ha' := ad_len hh c k
        rw [← ha] at ha'
        (repeat (rw [grd_pos _ (by first | assumption | omega | (unfold I64; omega) | (unfold Ix; omega) | (unfold Len; omega) | (unfold App; omega) | (simp only [List.length_set]; omega))]))
        refine ⟨_, ?_, rfl⟩
        rw [ad, ← ha]
      · rw [ha, hc, hw]; rfl

theorem r_block (F : Nat) (kk h : List Int) (l : List UInt8) (hk : kk.length = 64) (hh : h.length = 8) (hl : l.length = 64) : m_tholeref01_block F h kk l = some (SB kk h l) := by
  simp only [m_tholeref01_block, tn2, tn6, tn7, tn11, tn13, tn17, tn18, tn19, tn22, tn25, Option.bind_some]
  rw [grd_pos _ (by decide), show Int.toNat (16 - ((0 : Nat) : Int)) = 16 by decide]
  refine loopC_to (fun k w => w = sc l k) 16 _ _ _ (fun nx k w hk hw => ?_) (fun w hw => ?_) 16 0 _ rfl rfl
  · have hw' := sc_len l k
    have hz := sc_zero l k k (Nat.le_refl _)
    rw [← hw] at hw' hz
    (repeat (rw [grd_pos _ (by first | assumption | omega | (unfold I64; omega) | (unfold Ix; omega) | (unfold Len; omega) | (unfold App; omega) | (simp only [List.length_set]; omega))]))
    refine ⟨_, ?_, rfl⟩
    have hD : ∀ v, (w.set k v).getD k 0 = v := fun v => getD_set (by omega) v
    simp only [List.set_set, hD, hz]
    have h0 := bN_lt l (4 * k)
    have h1 := bN_lt l (4 * k + 1)
    have h2 := bN_lt l (4 * k + 2)
    have h3 := bN_lt l (4 * k + 3)
    rw [sc, scV, if_pos hk, ← hw, show Int.toNat (4 * ((k : Nat) : Int) + 0) = 4 * k by omega, show Int.toNat (4 * ((k : Nat) : Int) + 1) = 4 * k + 1 by omega, show Int.toNat (4 * ((k : Nat) : Int) + 2) = 4 * k + 2 by omega, show Int.toNat (4 * ((k : Nat) : Int) + 3) = 4 * k + 3 by omega]
    simp only [bN_eq]
    rw [sh8_0 h0, sh8 (by omega) h1, sh8 (by omega) h2, sh8 (by omega) h3]
    rfl
  · have hw' := sc_len l 16
    rw [← hw] at hw'
    rw [grd_pos _ (by decide), show Int.toNat (64 - ((16 : Nat) : Int)) = 48 by decide]
    refine loopC_to (fun k w => 16 ≤ k ∧ w = sc l k) 64 _ _ _ (fun nx k w hk hw => ?_) (fun w hw => ?_) 48 16 _ rfl ⟨Nat.le_refl _, hw⟩
    · obtain ⟨h16, hw⟩ := hw
      have hw' := sc_len l k
      rw [← hw] at hw'
      (repeat (rw [grd_pos _ (by first | assumption | omega | (unfold I64; omega) | (unfold Ix; omega) | (unfold Len; omega) | (unfold App; omega) | (simp only [List.length_set]; omega))]))
      refine ⟨_, ⟨by omega, ?_⟩, rfl⟩
      rw [sc, scV, if_neg (by omega), ← hw, show Int.toNat (((k : Nat) : Int) - 15) = k - 15 by omega, show Int.toNat (((k : Nat) : Int) - 2) = k - 2 by omega, show Int.toNat (((k : Nat) : Int) - 16) = k - 16 by omega, show Int.toNat (((k : Nat) : Int) - 7) = k - 7 by omega]
      rw [wrap_swap (w.getD (k - 16) 0)]
    · obtain ⟨_, hw⟩ := hw
      have hw' := sc_len l 64
      rw [← hw] at hw'
      (repeat (rw [grd_pos _ (by first | assumption | omega | (unfold I64; omega) | (unfold Ix; omega) | (unfold Len; omega) | (unfold App; omega) | (simp only [List.length_set]; omega))]))
      refine loopC_to (fun k c => c = rds kk w h k) 64 _ _ _ (fun nx k c hk2 hc => ?_) (fun c hc => ?_) 64 0 _ rfl rfl
      · have hc' := rds_len kk w hh k
        rw [← hc] at hc'
        (repeat (rw [grd_pos _ (by first | assumption | omega | (unfold I64; omega) | (unfold Ix; omega) | (unfold Len; omega) | (unfold App; omega) | (simp only [List.length_set]; omega))]))
        refine ⟨_, ?_, rfl⟩
        rw [rds, rd, ← hc, ixor_comm .u32 4294967295 (c.getD 4 0)]
      · have hc' := rds_len kk w hh 64
        rw [← hc] at hc'
        rw [grd_pos _ (by decide), show Int.toNat (8 - ((0 : Nat) : Int)) = 8 by decide]
        refine loopC_to (fun k a => a = ad h c k) 8 _ _ _ (fun nx k a hk3 ha => ?_) (fun a ha => ?_) 8 0 _ rfl rfl
        · have ha' := ad_len hh c k
          rw [← ha] at ha'
          (repeat (rw [grd_pos _ (by first | assumption | omega | (unfold I64; omega) | (unfold Ix; omega) | (unfold Len; omega) | (unfold App; omega) | (simp only [List.length_set]; omega))]))
          refine ⟨_, ?_, rfl⟩
          rw [ad, ← ha]
        · have ha' := ad_len hh c 8
          rw [← ha] at ha'
          (repeat (rw [grd_pos _ (by first | assumption | omega | (unfold I64; omega) | (unfold Ix; omega) | (unfold Len; omega) | (unfold App; omega) | (simp only [List.length_set]; omega))]))
          rw [ha, hc, hw]; rfl

end Go.Proofs.Ytmjlfdllpnkgoaa
