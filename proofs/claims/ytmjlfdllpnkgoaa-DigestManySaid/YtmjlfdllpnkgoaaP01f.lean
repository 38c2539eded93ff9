/-
  CHAPTER 01: plain facts on the models: SHA-256, of the engine and of the reference.
-/
import Derived.Test.YtmjlfdllpnkgoaaP01e
set_option linter.unusedVariables false
set_option linter.unusedSimpArgs false
set_option maxRecDepth 1000000
set_option maxHeartbeats 4000000
namespace Go.Proofs.Ytmjlfdllpnkgoaa
open Go Go.RowKit Sx

theorem loopW_to {σ ρ : Type} (P : σ → Prop) (m : σ → Nat) (r : Option ρ) (st : (σ → Option ρ) → σ → Option ρ)
    (hs : ∀ nx s, P s → (∃ s', P s' ∧ m s' < m s ∧ st nx s = nx s') ∨ st nx s = r) : ∀ (n : Nat) (s : σ), m s < n → P s → loopW st n s = r
  | 0, s, h, _ => by omega
  | n + 1, s, h, hp => by
    rw [loopW]
    rcases hs (fun s' => loopW st n s') s hp with ⟨s', h1, h2, e⟩ | e
    · rw [e]; exact loopW_to P m r st hs n s' (by omega) h1
    · exact e

/-! ### Constants -/
def PR : List Int := [2, 3, 5, 7, 11, 13, 17, 19, 23, 29, 31, 37, 41, 43, 47, 53, 59, 61, 67, 71, 73, 79, 83, 89, 97, 101, 103, 107, 109, 113, 127, 131, 137, 139, 149, 151, 157, 163, 167, 173, 179, 181, 191, 193, 197, 199, 211, 223, 227, 229, 233, 239, 241, 251, 257, 263, 269, 271, 277, 281, 283, 293, 307, 311]
def KK : List Int := (m_digest_rounds 0).getD []
def H0 : List Int := [1779033703, 3144134277, 1013904242, 2773480762, 1359893119, 2600822924, 528734635, 1541459225]
theorem KK_len : KK.length = 64 := by kernel_rfl
theorem PR_len : PR.length = 64 := by kernel_rfl
theorem primes_ok : m_tholeref01_primes 1000 64 = some PR := by kernel_rfl
theorem squares_ok : (List.range 8).map (fun k => m_tholeref01_square 1000 (PR.getD k 0)) = (List.range 8).map (fun k => some (H0.getD k 0)) := by kernel_rfl
theorem cubes_ok : (List.range 64).map (fun k => m_tholeref01_cube 1000 (PR.getD k 0)) = (List.range 64).map (fun k => some (KK.getD k 0)) := by kernel_rfl
theorem square_at {k : Nat} (h : k < 8) : m_tholeref01_square 1000 (PR.getD k 0) = some (H0.getD k 0) := List.map_inj_left.1 squares_ok k (List.mem_range.2 h)
theorem cube_at {k : Nat} (h : k < 64) : m_tholeref01_cube 1000 (PR.getD k 0) = some (KK.getD k 0) := List.map_inj_left.1 cubes_ok k (List.mem_range.2 h)
def cs (f : Nat → Int) (n : Nat) : Nat → List Int
  | 0 => List.replicate n 0
  | k + 1 => (cs f n k).set k (f k)
theorem cs_len (f : Nat → Int) (n : Nat) : ∀ k, (cs f n k).length = n
  | 0 => List.length_replicate
  | k + 1 => by rw [cs, List.length_set, cs_len f n k]
theorem cs_H : cs (fun k => H0.getD k 0) 8 8 = H0 := by kernel_rfl
theorem cs_K : cs (fun k => KK.getD k 0) 64 64 = KK := by kernel_rfl

/-! ### Padding -/
def padZ (n : Nat) : Nat := (119 - n % 64) % 64
def lB (n j : Nat) : UInt8 := UInt8.ofNat (Int.toNat (IntKind.u8.wrap (Int.fdiv (IntKind.u64.wrap (IntKind.u64.wrap (n : Int) * 8)) (2 ^ (8 * j)))))
def lp (p : List UInt8) (n : Nat) : Nat → List UInt8
  | 0 => p
  | k + 1 => lp p n k ++ [lB n (7 - k)]
theorem lp_len (p : List UInt8) (n : Nat) : ∀ k, (lp p n k).length = p.length + k
  | 0 => rfl
  | k + 1 => by rw [lp, List.length_append, lp_len p n k]; rfl
def pads (b : List UInt8) (j : Nat) : List UInt8 := b ++ [128] ++ List.replicate j 0
theorem pads_len (b : List UInt8) (j : Nat) : (pads b j).length = b.length + 1 + j := by simp [pads]; omega
theorem pads_zero (b : List UInt8) : b ++ [128] = pads b 0 := by simp [pads]
theorem pads_succ (b : List UInt8) (j : Nat) : pads b j ++ [0] = pads b (j + 1) := by rw [pads, List.append_assoc _ _ [0], ← List.replicate_succ', pads]
def full (b : List UInt8) : List UInt8 := lp (pads b (padZ b.length)) b.length 8
def mB (b : List UInt8) : Nat := (b.length + 72) / 64
theorem full_len (b : List UInt8) : (full b).length = 64 * mB b := by
  rw [full, lp_len, pads_len, mB, padZ]; omega
def bs (l : List UInt8) : Nat → List Int
  | 0 => H0
  | j + 1 => SB KK (bs l j) ((l.drop (64 * j)).take 64)
theorem bs_len (l : List UInt8) : ∀ j, (bs l j).length = 8
  | 0 => rfl
  | j + 1 => SB_len KK (bs_len l j) _
def ob (h : List Int) (k : Nat) : Int := IntKind.u8.wrap (Int.fdiv (h.getD (k / 4) 0) (2 ^ (24 - 8 * (k % 4))))
def ow (h : List Int) : Nat → List Int
  | 0 => List.replicate 32 0
  | k + 1 => (ow h k).set k (ob h k)
theorem ow_len (h : List Int) : ∀ k, (ow h k).length = 32
  | 0 => List.length_replicate
  | k + 1 => by rw [ow, List.length_set, ow_len h k]
def SHA (b : List UInt8) : List Int := ow (bs (full b) (mB b)) 32
theorem SHA_len (b : List UInt8) : (SHA b).length = 32 := ow_len _ 32

theorem pad_more {b : List UInt8} {j : Nat} (h : j < padZ b.length) : (Int.tmod (((pads b j).length : Nat) : Int) 64 != 56) = true := by
  rw [pads_len, show Int.tmod ((b.length + 1 + j : Nat) : Int) 64 = (((b.length + 1 + j) % 64 : Nat) : Int) from rfl, bne_iff_ne]
  unfold padZ at h
  omega
theorem pad_end (b : List UInt8) : (Int.tmod (((pads b (padZ b.length)).length : Nat) : Int) 64 != 56) = false := by
  rw [pads_len, show Int.tmod ((b.length + 1 + padZ b.length : Nat) : Int) 64 = (((b.length + 1 + padZ b.length) % 64 : Nat) : Int) from rfl, bne_eq_false_iff_eq]
  unfold padZ
  omega

theorem tdiv4 (k : Nat) : Int.tdiv ((k : Nat) : Int) 4 = ((k / 4 : Nat) : Int) := by rw [Int.tdiv_eq_ediv_of_nonneg (by omega)]; omega
theorem tmod4 (k : Nat) : Int.tmod ((k : Nat) : Int) 4 = ((k % 4 : Nat) : Int) := by rw [Int.tmod_eq_emod_of_nonneg (by omega)]; omega
theorem d_sha (b : List UInt8) (hb : b.length ≤ 20000) : m_digest_sum256 1000 b = some (SHA b) := by
  have hKK := KK_len
  simp only [m_digest_sum256]
  rw [show m_digest_rounds 1000 = some KK from rfl, Option.bind_some]
  (repeat (rw [grd_pos _ (by first | assumption | omega | decide | exact wrap_u8_range _ | (unfold I64; omega) | (unfold Ix; omega) | (unfold Len; omega) | (unfold App; omega) | (simp only [List.length_set]; omega) | (simp only [List.length_append, List.length_cons, List.length_nil, App]; omega))]))
  rw [pads_zero]
  refine loopW_to (fun l => ∃ j, j ≤ padZ b.length ∧ l = pads b j) (fun l => b.length + 65 - l.length) _ _ (fun nx l hl => ?_) 1000 _ (by rw [pads_len]; omega) ⟨0, by omega, rfl⟩
  obtain ⟨j, hj, rfl⟩ := hl
  have hz : padZ b.length < 64 := Nat.mod_lt _ (by decide)
  have hpl := pads_len b j
  by_cases hjz : j < padZ b.length
  · left
    rw [pad_more hjz, cond_true]
    (repeat (rw [grd_pos _ (by first | assumption | omega | decide | exact wrap_u8_range _ | (unfold I64; omega) | (unfold Ix; omega) | (unfold Len; omega) | (unfold App; omega) | (simp only [List.length_set]; omega) | (simp only [List.length_append, List.length_cons, List.length_nil, App]; omega))]))
    rw [pads_succ]
    refine ⟨_, ⟨j + 1, hjz, rfl⟩, ?_, rfl⟩
    rw [pads_len, pads_len]; omega
  right
  obtain rfl : j = padZ b.length := by omega
  rw [pad_end, cond_false, grd_pos _ (by decide), show Int.toNat (8 - ((0 : Nat) : Int)) = 8 by decide]
  refine loopC_to (fun k l => l = lp (pads b (padZ b.length)) b.length k) 8 _ _ _ (fun nx k l hk hl => ?_) (fun l hl => ?_) 8 0 _ rfl rfl
  · have hll := lp_len (pads b (padZ b.length)) b.length k
    rw [← hl] at hll
    (repeat (rw [grd_pos _ (by first | assumption | omega | decide | exact wrap_u8_range _ | (unfold I64; omega) | (unfold Ix; omega) | (unfold Len; omega) | (unfold App; omega) | (simp only [List.length_set]; omega) | (simp only [List.length_append, List.length_cons, List.length_nil, App]; omega))]))
    refine ⟨_, ?_, rfl⟩
    rw [lp, ← hl, lB, show min (Int.toNat (56 - 8 * ((k : Nat) : Int))) 64 = 8 * (7 - k) by omega]
    rfl
  · have hll := full_len b
    have hl : l = full b := hl
    rw [← hl] at hll
    have hmB : mB b < 400 := by unfold mB; omega
    refine loopW_to (fun s => ∃ j, j ≤ mB b ∧ s = (bs l j, l.drop (64 * j))) (fun s => s.2.length / 64) _ _ (fun nx s hs => ?_) 1000 _ (by show l.length / 64 < 1000; omega) ⟨0, by omega, rfl⟩
    obtain ⟨j, hj, rfl⟩ := hs
    dsimp only
    have hdl : (l.drop (64 * j)).length = 64 * (mB b - j) := by rw [List.length_drop]; omega
    by_cases hjm : j < mB b
    · left
      rw [decide_eq_true (show (((l.drop (64 * j)).length : Nat) : Int) > 0 by omega), cond_true]
      (repeat (rw [grd_pos _ (by first | assumption | omega | decide | exact wrap_u8_range _ | (unfold I64; omega) | (unfold Ix; omega) | (unfold Len; omega) | (unfold App; omega) | (simp only [List.length_set]; omega) | (simp only [List.length_append, List.length_cons, List.length_nil, App]; omega))]))
      rw [d_block _ KK _ _ KK_len (bs_len l j) (by rw [List.length_take]; omega), Option.bind_some]
      refine ⟨_, ⟨j + 1, hjm, ?_⟩, ?_, rfl⟩
      · rw [bs, List.take_of_length_le (i := (l.drop (64 * j)).length - 64) (l := (l.drop (64 * j)).drop 64) (by rw [List.length_drop]; omega), List.drop_drop]; rfl
      · show (List.take _ _).length / 64 < _
        rw [List.take_of_length_le (by rw [List.length_drop]; omega), List.length_drop]
        omega
    · right
      obtain rfl : j = mB b := by omega
      rw [decide_eq_false (show ¬ (((l.drop (64 * mB b)).length : Nat) : Int) > 0 by omega), cond_false, grd_pos _ (by decide), show Int.toNat (32 - ((0 : Nat) : Int)) = 32 by decide]
      have hbl := bs_len l (mB b)
      refine loopC_to (fun k c => c = ow (bs l (mB b)) k) 32 _ _ _ (fun nx k c hk hc => ?_) (fun c hc => ?_) 32 0 _ rfl rfl
      · have hcl := ow_len (bs l (mB b)) k
        rw [← hc] at hcl
        rw [tdiv4, tmod4]
        (repeat (rw [grd_pos _ (by first | assumption | omega | decide | exact wrap_u8_range _ | (unfold I64; omega) | (unfold Ix; omega) | (unfold Len; omega) | (unfold App; omega) | (simp only [List.length_set]; omega) | (simp only [List.length_append, List.length_cons, List.length_nil, App]; omega))]))
        refine ⟨_, ?_, rfl⟩
        rw [ow, ob, ← hc, Int.toNat_natCast, show min (Int.toNat (24 - 8 * ((k % 4 : Nat) : Int))) 32 = 24 - 8 * (k % 4) by omega]
      · have hcl := ow_len (bs l (mB b)) 32
        rw [← hc] at hcl
        (repeat (rw [grd_pos _ (by first | assumption | omega | decide | exact wrap_u8_range _ | (unfold I64; omega) | (unfold Ix; omega) | (unfold Len; omega) | (unfold App; omega) | (simp only [List.length_set]; omega) | (simp only [List.length_append, List.length_cons, List.length_nil, App]; omega))]))
        rw [hc, hl]; rfl

theorem r_sha (b : List UInt8) (hb : b.length ≤ 20000) : m_tholeref01_Sha 1000 b = some (SHA b) := by
  have hKK := KK_len
  have hPR := PR_len
  simp only [m_tholeref01_Sha, List.nil_append]
  rw [primes_ok, Option.bind_some, grd_pos _ (by decide), show Int.toNat (8 - ((0 : Nat) : Int)) = 8 by decide]
  refine loopC_to (fun k c => c = cs (fun k => H0.getD k 0) 8 k) 8 _ _ _ (fun nx k c hk hc => ?_) (fun c hc => ?_) 8 0 _ rfl rfl
  · have hcl := cs_len (fun k => H0.getD k 0) 8 k
    rw [← hc] at hcl
    (repeat (rw [grd_pos _ (by first | assumption | omega | decide | exact wrap_u8_range _ | (unfold I64; omega) | (unfold Ix; omega) | (unfold Len; omega) | (unfold App; omega) | (simp only [List.length_set]; omega) | (simp only [List.length_append, List.length_cons, List.length_nil, App]; omega))]))
    rw [square_at hk, Option.bind_some]
    (repeat (rw [grd_pos _ (by first | assumption | omega | decide | exact wrap_u8_range _ | (unfold I64; omega) | (unfold Ix; omega) | (unfold Len; omega) | (unfold App; omega) | (simp only [List.length_set]; omega) | (simp only [List.length_append, List.length_cons, List.length_nil, App]; omega))]))
    refine ⟨_, ?_, rfl⟩
    rw [cs, ← hc]
  rw [cs_H] at hc
  subst hc
  rw [grd_pos _ (by decide), show Int.toNat (64 - ((0 : Nat) : Int)) = 64 by decide]
  refine loopC_to (fun k c => c = cs (fun k => KK.getD k 0) 64 k) 64 _ _ _ (fun nx k c hk hc => ?_) (fun c hc => ?_) 64 0 _ rfl rfl
  · have hcl := cs_len (fun k => KK.getD k 0) 64 k
    rw [← hc] at hcl
    (repeat (rw [grd_pos _ (by first | assumption | omega | decide | exact wrap_u8_range _ | (unfold I64; omega) | (unfold Ix; omega) | (unfold Len; omega) | (unfold App; omega) | (simp only [List.length_set]; omega) | (simp only [List.length_append, List.length_cons, List.length_nil, App]; omega))]))
    rw [cube_at hk, Option.bind_some]
    (repeat (rw [grd_pos _ (by first | assumption | omega | decide | exact wrap_u8_range _ | (unfold I64; omega) | (unfold Ix; omega) | (unfold Len; omega) | (unfold App; omega) | (simp only [List.length_set]; omega) | (simp only [List.length_append, List.length_cons, List.length_nil, App]; omega))]))
    refine ⟨_, ?_, rfl⟩
    rw [cs, ← hc]
  rw [cs_K] at hc
  subst hc
  (repeat (rw [grd_pos _ (by first | assumption | omega | decide | exact wrap_u8_range _ | (unfold I64; omega) | (unfold Ix; omega) | (unfold Len; omega) | (unfold App; omega) | (simp only [List.length_set]; omega) | (simp only [List.length_append, List.length_cons, List.length_nil, App]; omega))]))
  rw [pads_zero]
  refine loopW_to (fun l => ∃ j, j ≤ padZ b.length ∧ l = pads b j) (fun l => b.length + 65 - l.length) _ _ (fun nx l hl => ?_) 1000 _ (by rw [pads_len]; omega) ⟨0, by omega, rfl⟩
  obtain ⟨j, hj, rfl⟩ := hl
  have hz : padZ b.length < 64 := Nat.mod_lt _ (by decide)
  have hpl := pads_len b j
  by_cases hjz : j < padZ b.length
  · left
    rw [pad_more hjz, cond_true]
    (repeat (rw [grd_pos _ (by first | assumption | omega | decide | exact wrap_u8_range _ | (unfold I64; omega) | (unfold Ix; omega) | (unfold Len; omega) | (unfold App; omega) | (simp only [List.length_set]; omega) | (simp only [List.length_append, List.length_cons, List.length_nil, App]; omega))]))
    rw [pads_succ]
    refine ⟨_, ⟨j + 1, hjz, rfl⟩, ?_, rfl⟩
    rw [pads_len, pads_len]; omega
  right
  obtain rfl : j = padZ b.length := by omega
  rw [pad_end, cond_false]
  refine loopW_to (fun s => ∃ k : Nat, k ≤ 8 ∧ s = (7 - (k : Int), lp (pads b (padZ b.length)) b.length k)) (fun s => Int.toNat (s.1 + 1)) _ _ (fun nx s hs => ?_) 1000 _ (by show Int.toNat (7 + 1) < 1000; decide) ⟨0, by omega, rfl⟩
  obtain ⟨k, hk, rfl⟩ := hs
  dsimp only
  have hll := lp_len (pads b (padZ b.length)) b.length k
  by_cases hk8 : k < 8
  · left
    rw [decide_eq_true (show 7 - (k : Int) ≥ 0 by omega), cond_true, wrap_u64 (x := 8 * (7 - (k : Int))) (by omega) (by omega)]
    (repeat (rw [grd_pos _ (by first | assumption | omega | decide | exact wrap_u8_range _ | (unfold I64; omega) | (unfold Ix; omega) | (unfold Len; omega) | (unfold App; omega) | (simp only [List.length_set]; omega) | (simp only [List.length_append, List.length_cons, List.length_nil, App]; omega))]))
    refine ⟨_, ⟨k + 1, hk8, ?_⟩, ?_, rfl⟩
    · rw [lp, lB, show min (Int.toNat (8 * (7 - (k : Int)))) 64 = 8 * (7 - k) by omega, show 7 - (k : Int) - 1 = 7 - ((k + 1 : Nat) : Int) by omega]
    · show Int.toNat (7 - (k : Int) - 1 + 1) < Int.toNat (7 - (k : Int) + 1)
      omega
  right
  obtain rfl : k = 8 := by omega
  rw [decide_eq_false (show ¬ 7 - ((8 : Nat) : Int) ≥ 0 by decide), cond_false]
  have hfl := full_len b
  have hmB : mB b < 400 := by unfold mB; omega
  rw [← full]
  refine loopW_to (fun s => ∃ j : Nat, j ≤ mB b ∧ s = (64 * j, bs (full b) j)) (fun s => mB b - s.1 / 64) _ _ (fun nx s hs => ?_) 1000 _ (by show mB b - 0 / 64 < 1000; omega) ⟨0, by omega, rfl⟩
  obtain ⟨j, hj, rfl⟩ := hs
  dsimp only
  have hbl := bs_len (full b) j
  by_cases hjm : j < mB b
  · left
    rw [decide_eq_true (show ((64 * j : Nat) : Int) < (((full b).length : Nat) : Int) by omega), cond_true]
    (repeat (rw [grd_pos _ (by first | assumption | omega | decide | exact wrap_u8_range _ | (unfold I64; omega) | (unfold Ix; omega) | (unfold Len; omega) | (unfold App; omega) | (simp only [List.length_set]; omega) | (simp only [List.length_append, List.length_cons, List.length_nil, App]; omega))]))
    rw [show 64 * j + 64 - 64 * j = 64 by omega, r_block _ KK _ _ KK_len hbl (by rw [List.length_take, List.length_drop]; omega), Option.bind_some]
    have h8 := SB_len KK hbl (((full b).drop (64 * j)).take 64)
    (repeat (rw [grd_pos _ (by first | assumption | omega | decide | exact wrap_u8_range _ | (unfold I64; omega) | (unfold Ix; omega) | (unfold Len; omega) | (unfold App; omega) | (simp only [List.length_set]; omega) | (simp only [List.length_append, List.length_cons, List.length_nil, App]; omega))]))
    refine ⟨_, ⟨j + 1, hjm, rfl⟩, ?_, rfl⟩
    show mB b - (64 * j + 64) / 64 < mB b - 64 * j / 64
    omega
  right
  obtain rfl : j = mB b := by omega
  rw [decide_eq_false (show ¬ ((64 * mB b : Nat) : Int) < (((full b).length : Nat) : Int) by omega), cond_false]
  (repeat (rw [grd_pos _ (by first | assumption | omega | decide | exact wrap_u8_range _ | (unfold I64; omega) | (unfold Ix; omega) | (unfold Len; omega) | (unfold App; omega) | (simp only [List.length_set]; omega) | (simp only [List.length_append, List.length_cons, List.length_nil, App]; omega))]))
  try rw [show Int.toNat (8 - ((0 : Nat) : Int)) = 8 by decide]
  refine loopC_to (fun v c => c = ow (bs (full b) (mB b)) (4 * v)) 8 _ _ _ (fun nx v c hv hc => ?_) (fun c hc => ?_) 8 0 _ rfl rfl
  · have hcl := ow_len (bs (full b) (mB b)) (4 * v)
    rw [← hc] at hcl
    (repeat (rw [grd_pos _ (by first | assumption | omega | decide | exact wrap_u8_range _ | (unfold I64; omega) | (unfold Ix; omega) | (unfold Len; omega) | (unfold App; omega) | (simp only [List.length_set]; omega) | (simp only [List.length_append, List.length_cons, List.length_nil, App]; omega))]))
    refine ⟨_, ?_, rfl⟩
    show _ = ((((ow (bs (full b) (mB b)) (4 * v)).set (4 * v) (ob _ (4 * v))).set (4 * v + 1) (ob _ (4 * v + 1))).set (4 * v + 2) (ob _ (4 * v + 2))).set (4 * v + 3) (ob _ (4 * v + 3))
    rw [← hc, ob, ob, ob, ob, show 4 * v / 4 = v by omega, show (4 * v + 1) / 4 = v by omega, show (4 * v + 2) / 4 = v by omega, show (4 * v + 3) / 4 = v by omega, show 4 * v % 4 = 0 by omega, show (4 * v + 1) % 4 = 1 by omega, show (4 * v + 2) % 4 = 2 by omega, show (4 * v + 3) % 4 = 3 by omega]
    rw [show Int.toNat (4 * ((v : Nat) : Int) + 0) = 4 * v by omega, show Int.toNat (4 * ((v : Nat) : Int) + 1) = 4 * v + 1 by omega, show Int.toNat (4 * ((v : Nat) : Int) + 2) = 4 * v + 2 by omega, show Int.toNat (4 * ((v : Nat) : Int) + 3) = 4 * v + 3 by omega]
  · have hcl := ow_len (bs (full b) (mB b)) (4 * 8)
    rw [← hc] at hcl
    (repeat (rw [grd_pos _ (by first | assumption | omega | decide | exact wrap_u8_range _ | (unfold I64; omega) | (unfold Ix; omega) | (unfold Len; omega) | (unfold App; omega) | (simp only [List.length_set]; omega) | (simp only [List.length_append, List.length_cons, List.length_nil, App]; omega))]))
    rw [hc]; rfl

theorem m_sha (e : S_digest_Engine) (he : e.table.length = 256) (b : List UInt8) (hb : b.length ≤ 20000) : m___digest_Engine__Sha 1000 e b = some (SHA b, S_digest_Engine.mk e.once e.table (S_atomic_Int64.mk (S_atomic_noCopy.mk) (S_atomic_align64.mk) (IntKind.i64.wrap (e.calls.v + 1)))) := by
  rw [m___digest_Engine__Sha, grd_pos _ he, d_sha b hb, Option.bind_some, grd_pos _ (SHA_len b)]

end Go.Proofs.Ytmjlfdllpnkgoaa
