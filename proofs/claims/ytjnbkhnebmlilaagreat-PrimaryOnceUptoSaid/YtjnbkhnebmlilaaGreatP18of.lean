/-
  CHAPTER 18, PrimaryOnce: plain facts: the CRC.
-/
import Derived.Test.YtjnbkhnebmlilaaGreatP18oa
set_option linter.unusedVariables false
set_option linter.unusedSimpArgs false
set_option maxRecDepth 100000
namespace Go.Proofs.YtjnbkhnebmlilaaGreat
open Go Go.RowKit Sx

theorem loopC_to {σ ρ : Type} (Q : Nat → σ → Prop) (n : Nat) (r : Option ρ) (st : (σ → Option ρ) → Nat → σ → Option ρ) (fin : Nat → σ → Option ρ)
    (hs : ∀ nx c s, c < n → Q c s → ∃ s', Q (c + 1) s' ∧ st nx c s = nx s') (hf : ∀ s, Q n s → fin n s = r) : ∀ (k c : Nat) (s : σ), c + k = n → Q c s → loopC st fin k c s = r
  | 0, c, s, h, hq => by
    obtain rfl : c = n := by omega
    rw [loopC, hf s hq]
  | k + 1, c, s, h, hq => by
    obtain ⟨s', h1, e⟩ := hs (fun s' => loopC st fin k (c + 1) s') c s (by omega) hq
    rw [loopC, e, loopC_to Q n r st fin hs hf k (c + 1) s' (by omega) h1]


abbrev PC : Nat := 2197175160
def cN (b : Nat) : Nat := if b = 1 then PC else 0
/-- One bit goes out. -/
def tN (u : Nat) : Nat := u / 2 ^^^ cN (u % 2)
def tK : Nat → Nat → Nat
  | 0, u => u
  | k + 1, u => tK k (tN u)

theorem xor4 (a b c d : Nat) : (a ^^^ b) ^^^ (c ^^^ d) = (a ^^^ c) ^^^ (b ^^^ d) := by
  rw [Nat.xor_assoc, ← Nat.xor_assoc b c d, Nat.xor_comm b c, Nat.xor_assoc c b d, ← Nat.xor_assoc]
theorem cN_xor (a b : Nat) : cN ((a ^^^ b) % 2) = cN (a % 2) ^^^ cN (b % 2) := by
  unfold cN
  have h := @Nat.xor_mod_two_eq_one a b
  have ha : a % 2 = 0 ∨ a % 2 = 1 := by omega
  have hb : b % 2 = 0 ∨ b % 2 = 1 := by omega
  rcases ha with ha | ha <;> rcases hb with hb | hb <;> simp only [ha, hb] at h ⊢ <;> simp [h]
theorem tN_xor (a b : Nat) : tN (a ^^^ b) = tN a ^^^ tN b := by
  unfold tN
  rw [Nat.xor_div_two, cN_xor, xor4]
theorem tK_xor : ∀ (k a b : Nat), tK k (a ^^^ b) = tK k a ^^^ tK k b
  | 0, _, _ => rfl
  | k + 1, a, b => by rw [tK, tN_xor, tK_xor k]; rfl
theorem tK_split : ∀ (k u : Nat), tK k u = u / 2 ^ k ^^^ tK k (u % 2 ^ k)
  | 0, u => by simp [tK, Nat.mod_one]
  | k + 1, u => by
    have e1 : u % 2 ^ (k + 1) / 2 = u / 2 % 2 ^ k := by rw [Nat.pow_succ, Nat.mul_comm, Nat.mod_mul_right_div_self]
    have e2 : u % 2 ^ (k + 1) % 2 = u % 2 := by rw [Nat.pow_succ, Nat.mul_comm]; exact Nat.mod_mul_right_mod u 2 (2 ^ k)
    have e3 : u / 2 ^ (k + 1) = u / 2 / 2 ^ k := by rw [Nat.pow_succ, Nat.mul_comm, Nat.div_div_eq_div_mul]
    rw [tK, tK]
    show tK k (u / 2 ^^^ cN (u % 2)) = _ ^^^ tK k (u % 2 ^ (k + 1) / 2 ^^^ cN (u % 2 ^ (k + 1) % 2))
    rw [tK_xor, tK_xor, e1, e2, e3, tK_split k (u / 2), Nat.xor_assoc]
theorem tN_lt {u : Nat} (h : u < 2 ^ 32) : tN u < 2 ^ 32 := by
  unfold tN
  refine Nat.xor_lt_two_pow (by omega) ?_
  unfold cN; split <;> decide
theorem tK_lt : ∀ (k : Nat) {u : Nat}, u < 2 ^ 32 → tK k u < 2 ^ 32
  | 0, u, h => h
  | k + 1, u, h => tK_lt k (tN_lt h)

/-- One byte goes in. -/
def stepN (n : Nat) (x : UInt8) : Nat := tK 8 (n ^^^ x.toNat)
theorem stepN_lt {n : Nat} (h : n < 2 ^ 32) (x : UInt8) : stepN n x < 2 ^ 32 := tK_lt 8 (Nat.xor_lt_two_pow h (Nat.lt_of_lt_of_le x.toNat_lt (by decide)))
def crcN (b : List UInt8) (n : Nat) : Nat := b.foldl stepN n
theorem crcN_lt : ∀ (b : List UInt8) {n : Nat}, n < 2 ^ 32 → crcN b n < 2 ^ 32
  | [], n, h => h
  | x :: b, n, h => crcN_lt b (stepN_lt h x)
def crcF (b : List UInt8) : Nat := crcN b 4294967295 ^^^ 4294967295

theorem ixor_nat {a b : Nat} (ha : a < 2 ^ 32) (hb : b < 2 ^ 32) : ixor .u32 (a : Int) (b : Int) = ((a ^^^ b : Nat) : Int) := by
  unfold ixor
  have hbt : IntKind.u32.bits = 32 := rfl
  have := Nat.xor_lt_two_pow ha hb
  rw [BitVec.toNat_xor, hbt, BitVec.ofInt_natCast, BitVec.ofInt_natCast, BitVec.toNat_ofNat, BitVec.toNat_ofNat, Nat.mod_eq_of_lt ha, Nat.mod_eq_of_lt hb, wrap_u32 (by omega) (by omega)]
theorem ixor8_nat {a b : Nat} (ha : a < 2 ^ 8) (hb : b < 2 ^ 8) : ixor .u8 (a : Int) (b : Int) = ((a ^^^ b : Nat) : Int) := by
  unfold ixor
  have hbt : IntKind.u8.bits = 8 := rfl
  have := Nat.xor_lt_two_pow ha hb
  rw [BitVec.toNat_xor, hbt, BitVec.ofInt_natCast, BitVec.ofInt_natCast, BitVec.toNat_ofNat, BitVec.toNat_ofNat, Nat.mod_eq_of_lt ha, Nat.mod_eq_of_lt hb, wrap_u8 (by omega) (by omega)]
theorem iand1_nat {a : Nat} (ha : a < 2 ^ 32) : iand .u32 (a : Int) 1 = ((a % 2 : Nat) : Int) := by
  unfold iand
  have hbt : IntKind.u32.bits = 32 := rfl
  rw [show (1 : Int) = ((1 : Nat) : Int) from rfl, BitVec.toNat_and, hbt, BitVec.ofInt_natCast, BitVec.ofInt_natCast, BitVec.toNat_ofNat, BitVec.toNat_ofNat, Nat.mod_eq_of_lt ha, Nat.mod_eq_of_lt (show 1 < 2 ^ 32 by decide), Nat.and_one_is_mod, wrap_u32 (by omega) (by omega)]
theorem wrap8_nat (a : Nat) : IntKind.u8.wrap (a : Int) = ((a % 256 : Nat) : Int) := by
  simp [IntKind.wrap, IntKind.bits, IntKind.signed]

/-! ### The table -/
def TBL : List Int := (List.range 256).map fun i => ((tK 8 i : Nat) : Int)
theorem TBL_len : TBL.length = 256 := by kernel_rfl
theorem TBL_at {i : Nat} (h : i < 256) : TBL.getD i 0 = ((tK 8 i : Nat) : Int) := by
  simp [TBL, List.getD, h]
theorem make_new (F : Nat) (o : S_sync_Once) (k : S_atomic_Int64) : m___digest_Engine__make F (S_digest_Engine.mk o (List.replicate 256 0) k) = some (S_digest_Engine.mk o TBL k) := by kernel_rfl
theorem once_new (F : Nat) (c : Int) : m_once F 0 0 0 (List.replicate 256 0) c = some TBL := by
  rw [m_once, grd_pos _ rfl, grd_pos _ List.length_replicate, show ((0 : Int) == 1) = false from rfl, cond_false, grd_pos _ rfl, make_new, Option.bind_some, grd_pos _ ⟨rfl, rfl, rfl, rfl, TBL_len⟩]
theorem once_done (F : Nat) (se c : Int) : m_once F 1 0 se TBL c = some TBL := by
  rw [m_once, grd_pos _ rfl, grd_pos _ TBL_len]; rfl

/-- An engine: new, or its table made. -/
def GoodE (e : S_digest_Engine) : Prop := e.once.m.mu.state = 0 ∧ e.once.m.mu.sema = 0 ∧ ((e.once.done.v = 0 ∧ e.table = List.replicate 256 0) ∨ (e.once.done.v = 1 ∧ e.table = TBL))
theorem GoodE.len {e : S_digest_Engine} (h : GoodE e) : e.table.length = 256 := by
  rcases h.2.2 with ⟨_, h⟩ | ⟨_, h⟩
  · rw [h, List.length_replicate]
  · rw [h, TBL_len]
theorem GoodE.once {e : S_digest_Engine} (h : GoodE e) (F : Nat) (c : Int) : m_once F e.once.done.v e.once.m.mu.state e.once.m.mu.sema e.table c = some TBL := by
  obtain ⟨h1, h2, ⟨h3, h4⟩ | ⟨h3, h4⟩⟩ := h
  · rw [h1, h2, h3, h4, once_new]
  · rw [h1, h2, h3, h4, once_done]
/-- The engine behind a CRC. -/
def madeE (c : Int) : S_digest_Engine := S_digest_Engine.mk (S_sync_Once.mk S_sync_noCopy.mk (S_atomic_Bool.mk S_atomic_noCopy.mk 1) (S_sync_Mutex'.mk S_sync_noCopy.mk (S_sync_Mutex.mk 0 0))) TBL (S_atomic_Int64.mk S_atomic_noCopy.mk S_atomic_align64.mk c)
theorem GoodE.made (c : Int) : GoodE (madeE c) := ⟨rfl, rfl, .inr ⟨rfl, rfl⟩⟩

theorem code_step {n : Nat} (hn : n < 2 ^ 32) (x : UInt8) : ((n % 256) ^^^ x.toNat) < 256 ∧ (n / 256 ^^^ tK 8 ((n % 256) ^^^ x.toNat)) = stepN n x := by
  have hx := x.toNat_lt
  refine ⟨Nat.xor_lt_two_pow (n := 8) (by omega) hx, ?_⟩
  unfold stepN
  rw [tK_split 8 (n ^^^ x.toNat), Nat.xor_div_two_pow, Nat.xor_mod_two_pow, Nat.div_eq_of_lt (show x.toNat < 2 ^ 8 from hx), Nat.xor_zero, Nat.mod_eq_of_lt (show x.toNat < 2 ^ 8 from hx)]

theorem loop_crc {ρ : Type} (R : Int → Option ρ) (st : (Int → Option ρ) → Nat → UInt8 → Int → Option ρ) (fin : Nat → Int → Option ρ)
    (hs : ∀ nx c x (n : Nat), n < 2 ^ 32 → st nx c x (n : Int) = nx ((stepN n x : Nat) : Int)) (hf : ∀ c v, fin c v = R v) :
    ∀ (l : List UInt8) (c n : Nat), n < 2 ^ 32 → loopL st fin l c (n : Int) = R ((crcN l n : Nat) : Int)
  | [], c, n, h => by rw [loopL, hf]; rfl
  | x :: l, c, n, h => by
    rw [loopL, hs _ _ _ _ h]
    exact loop_crc R st fin hs hf l (c + 1) _ (stepN_lt h x)

theorem m_crc (F : Nat) (e : S_digest_Engine) (he : GoodE e) (b : List UInt8) (hb : b.length ≤ 9223372036854775807) : m___digest_Engine__Crc F e b = some (((crcF b : Nat) : Int), madeE (IntKind.i64.wrap (e.calls.v + 1))) := by
  simp only [m___digest_Engine__Crc]
  rw [grd_pos _ he.len, he.once, Option.bind_some, grd_pos _ (show Len b.length from hb)]
  refine (loop_crc (fun v => some (ixor .u32 4294967295 v, madeE (IntKind.i64.wrap (e.calls.v + 1)))) _ _ (fun nx c x n hn => ?_) (fun c v => ?_) b 0 4294967295 (by decide)).trans ?_
  · obtain ⟨h1, h2⟩ := code_step hn x
    have hx := x.toNat_lt
    rw [wrap8_nat, ixor8_nat (by omega) hx, grd_pos _ (by unfold Ix; omega), Int.toNat_natCast, grd_pos _ (by rw [TBL_len]; exact h1), TBL_at h1]
    rw [show Int.fdiv (n : Int) (2 ^ 8) = ((n / 256 : Nat) : Int) by rw [Int.fdiv_eq_ediv_of_nonneg _ (by decide)]; rfl, ixor_nat (by omega) (tK_lt 8 (by omega)), h2, Option.bind_some]
  · rw [he.2.1]; rfl
  · have := crcN_lt b (show 4294967295 < 2 ^ 32 by decide)
    rw [show (4294967295 : Int) = ((4294967295 : Nat) : Int) from rfl, ixor_nat (by decide) this, Nat.xor_comm]; rfl

/-! ### Bit by bit -/
theorem m_refcrc (F : Nat) (b : List UInt8) (hb : b.length ≤ 9223372036854775807) : m_tholeref01_Crc F b = some ((crcF b : Nat) : Int) := by
  simp only [m_tholeref01_Crc]
  rw [grd_pos _ (show Len b.length from hb)]
  refine (loop_crc (fun v => some (ixor .u32 v 4294967295)) _ _ (fun nx c x n hn => ?_) (fun c v => rfl) b 0 4294967295 (by decide)).trans ?_
  · have hx := x.toNat_lt
    rw [grd_pos _ (by decide), show Int.toNat ((8 : Int) - (0 : Int)) = 8 by decide]
    -- behind k bits: what the table's way has, but for the bits of x that are still to come
    refine loopC_to (fun k (v : Int) => ∃ m : Nat, v = m ∧ m < 2 ^ 32 ∧ tK (8 - k) (m ^^^ (x.toNat / 2 ^ k)) = stepN n x) 8 _ _ _ (fun nx' k v hk hq => ?_) (fun v hv => ?_) 8 0 (n : Int) rfl ⟨n, rfl, hn, by rw [Nat.pow_zero, Nat.div_one]; rfl⟩
    · obtain ⟨m, rfl, hm, hq⟩ := hq
      have hxk : x.toNat / 2 ^ k < 2 ^ 8 := Nat.lt_of_le_of_lt (Nat.div_le_self _ _) hx
      have hxm : m ^^^ (x.toNat / 2 ^ k) < 2 ^ 32 := Nat.xor_lt_two_pow hm (Nat.lt_trans hxk (by decide))
      have e1 : Int.fdiv ((x.toNat : Nat) : Int) (2 ^ (min (Int.toNat (IntKind.u64.wrap ((k : Nat) : Int))) 8)) = ((x.toNat / 2 ^ k : Nat) : Int) := by
        rw [wrap_u64 (by omega) (by omega), Int.toNat_natCast, show min k 8 = k by omega, Int.fdiv_eq_ediv_of_nonneg _ (Int.pow_nonneg (by decide))]
        push_cast; rfl
      have hk2 : 8 - k = (8 - (k + 1)) + 1 := by omega
      rw [hk2, tK] at hq
      have hd : x.toNat / 2 ^ k / 2 = x.toNat / 2 ^ (k + 1) := by rw [Nat.div_div_eq_div_mul, Nat.pow_succ]
      have ht : tN (m ^^^ (x.toNat / 2 ^ k)) = (m / 2 ^^^ cN ((m ^^^ (x.toNat / 2 ^ k)) % 2)) ^^^ (x.toNat / 2 ^ (k + 1)) := by
        unfold tN
        rw [Nat.xor_div_two, hd, Nat.xor_assoc, Nat.xor_comm (x.toNat / 2 ^ (k + 1)), ← Nat.xor_assoc]
      rw [ht] at hq
      rw [grd_pos _ (by rw [wrap_u64 (by omega) (by omega)]; omega), e1, wrap_u32 (x := ((x.toNat / 2 ^ k : Nat) : Int)) (Int.natCast_nonneg _) (Int.lt_trans (Int.ofNat_lt.2 hxk) (by decide)), ixor_nat hm (Nat.lt_trans hxk (by decide)), iand1_nat hxm, Option.bind_some]
      have e2 : Int.fdiv (m : Int) (2 ^ 1) = ((m / 2 : Nat) : Int) := by rw [Int.fdiv_eq_ediv_of_nonneg _ (by decide)]; rfl
      rw [e2]
      by_cases hb1 : (m ^^^ (x.toNat / 2 ^ k)) % 2 = 1
      · rw [show ((((m ^^^ (x.toNat / 2 ^ k)) % 2 : Nat) : Int) == 1) = true by rw [hb1]; rfl, cond_true, show (2197175160 : Int) = ((PC : Nat) : Int) from rfl, ixor_nat (by omega) (by decide)]
        rw [hb1] at hq
        exact ⟨_, ⟨_, rfl, Nat.xor_lt_two_pow (by omega) (by decide), hq⟩, rfl⟩
      · have hb0 : (m ^^^ (x.toNat / 2 ^ k)) % 2 = 0 := by omega
        rw [show ((((m ^^^ (x.toNat / 2 ^ k)) % 2 : Nat) : Int) == 1) = false by rw [hb0]; rfl, cond_false]
        rw [hb0] at hq
        refine ⟨_, ⟨m / 2, rfl, by omega, ?_⟩, rfl⟩
        rw [← hq]
        show _ = tK _ ((m / 2 ^^^ 0) ^^^ _)
        rw [Nat.xor_zero]
    · obtain ⟨m, rfl, hm, hq⟩ := hv
      rw [Nat.div_eq_of_lt (show x.toNat < 2 ^ 8 from hx), Nat.xor_zero] at hq
      show nx (m : Int) = _
      rw [← hq]; rfl
  · have := crcN_lt b (show 4294967295 < 2 ^ 32 by decide)
    rw [show (4294967295 : Int) = ((4294967295 : Nat) : Int) from rfl, ixor_nat this (by decide)]; rfl

/-! ### A byte that is another one is told -/

end Go.Proofs.YtjnbkhnebmlilaaGreat
