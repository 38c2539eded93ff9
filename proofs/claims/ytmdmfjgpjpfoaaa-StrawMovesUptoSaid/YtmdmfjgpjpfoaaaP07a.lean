/-
  CHAPTER 7: plain facts on logarithms; nothing of the program stands here.
-/
import Derived.Test.YtmdmfjgpjpfoaaaPdig
set_option linter.unusedVariables false
set_option maxRecDepth 100000
namespace Go.Proofs.Ytmdmfjgpjpfoaaa
open Go Go.RowKit Sx

def len8tab : ByteArray := ⟨#[0, 1, 2, 2, 3, 3, 3, 3, 4, 4, 4, 4, 4, 4, 4, 4, 5, 5, 5, 5, 5, 5, 5, 5, 5, 5, 5, 5, 5, 5, 5, 5, 6, 6, 6, 6, 6, 6, 6, 6, 6, 6, 6, 6, 6, 6, 6, 6, 6, 6, 6, 6, 6, 6, 6, 6, 6, 6, 6, 6, 6, 6, 6, 6, 7, 7, 7, 7, 7, 7, 7, 7, 7, 7, 7, 7, 7, 7, 7, 7, 7, 7, 7, 7, 7, 7, 7, 7, 7, 7, 7, 7, 7, 7, 7, 7, 7, 7, 7, 7, 7, 7, 7, 7, 7, 7, 7, 7, 7, 7, 7, 7, 7, 7, 7, 7, 7, 7, 7, 7, 7, 7, 7, 7, 7, 7, 7, 7, 8, 8, 8, 8, 8, 8, 8, 8, 8, 8, 8, 8, 8, 8, 8, 8, 8, 8, 8, 8, 8, 8, 8, 8, 8, 8, 8, 8, 8, 8, 8, 8, 8, 8, 8, 8, 8, 8, 8, 8, 8, 8, 8, 8, 8, 8, 8, 8, 8, 8, 8, 8, 8, 8, 8, 8, 8, 8, 8, 8, 8, 8, 8, 8, 8, 8, 8, 8, 8, 8, 8, 8, 8, 8, 8, 8, 8, 8, 8, 8, 8, 8, 8, 8, 8, 8, 8, 8, 8, 8, 8, 8, 8, 8, 8, 8, 8, 8, 8, 8, 8, 8, 8, 8, 8, 8, 8, 8, 8, 8, 8, 8, 8, 8, 8, 8, 8, 8, 8, 8, 8, 8, 8, 8, 8, 8, 8, 8]⟩

/-- How many bits a byte takes. -/
def len8 (n : Nat) : Nat := if n = 0 then 0 else Nat.log2 n + 1

theorem len8_size : len8tab.size = 256 := by decide +kernel

theorem len8_all : ∀ n : Fin 256, (len8tab.data.getD n.val 0).toNat = len8 n.val := by decide +kernel

theorem len8_get (n : Nat) (h : n < 256) : (((len8tab.data.getD n 0).toNat : Nat) : Int) = ((len8 n : Nat) : Int) := congrArg _ (len8_all ⟨n, h⟩)

theorem len8_le (n : Nat) (h : n < 256 := by omega) : len8 n ≤ 8 := by
  have : ∀ n : Fin 256, len8 n.val ≤ 8 := by decide +kernel
  exact this ⟨n, h⟩

theorem log2_div (x k : Nat) (h : 0 < x / 2 ^ k) : Nat.log2 (x / 2 ^ k) + k = Nat.log2 x := by
  have hx : x ≠ 0 := by intro e; subst e; simp at h
  symm
  rw [Nat.log2_eq_iff hx]
  have h1 := Nat.log2_self_le (n := x / 2 ^ k) (by omega)
  have h2 : x / 2 ^ k < 2 ^ (Nat.log2 (x / 2 ^ k) + 1) := Nat.lt_log2_self
  have hp : 0 < 2 ^ k := Nat.two_pow_pos k
  constructor
  · rw [Nat.pow_add]; exact (Nat.le_div_iff_mul_le hp).1 h1
  · rw [show Nat.log2 (x / 2 ^ k) + k + 1 = (Nat.log2 (x / 2 ^ k) + 1) + k by omega, Nat.pow_add]; exact (Nat.div_lt_iff_lt_mul hp).1 h2

/-- What the table says of what is left behind a shift by n. -/
theorem len8_log2 (x y n : Nat) (h1 : 1 ≤ x) (h2 : 0 < y) (h : n = 0 ∧ y = x ∨ n = 8 ∧ y = x / 256 ∨ n = 16 ∧ y = x / 65536) : len8 y + n = Nat.log2 x + 1 := by
  unfold len8
  rw [if_neg (by omega)]
  rcases h with ⟨rfl, rfl⟩ | ⟨rfl, rfl⟩ | ⟨rfl, rfl⟩
  · rfl
  · have := log2_div x 8 h2; simp at this; omega
  · have := log2_div x 16 h2; simp at this; omega

/-- u, brought into 0 .. 65535. -/
def clampU (u : Int) : Nat := if u < 0 then 0 else if 65535 < u then 65535 else u.toNat

theorem clampU_le (u : Int) : clampU u ≤ 65535 := by
  unfold clampU
  split
  · omega
  · split <;> omega

theorem clamp_eq (u : Int) (c : Nat) (h : c = clampU u) : IntKind.u64.wrap (if 65535 < (if 0 > u then 0 else u) then 65535 else (if 0 > u then 0 else u)) = (c : Int) := by
  subst h
  have hl := clampU_le u
  have e : (if 65535 < (if 0 > u then 0 else u) then 65535 else (if 0 > u then 0 else u)) = (clampU u : Int) := by
    unfold clampU
    by_cases h0 : u < 0
    · simp [h0]
    · by_cases h1 : 65535 < u
      · simp [h0, h1]
      · simp [h0, h1]; omega
  rw [e, wrap_u64 (by omega) (by omega)]

theorem log2_le16 (x : Nat) (h : x ≤ 65536) : Nat.log2 x ≤ 16 := by
  by_cases h0 : x = 0
  · subst h0; decide
  · have : Nat.log2 x < 17 := (Nat.log2_lt h0).2 (by omega)
    omega

theorem y0_lt (x : Nat) (h1 : 1 ≤ x) (h2 : x ≤ 65536) : x * 2 ^ (31 - Nat.log2 x) < 4294967296 := by
  have he := log2_le16 x h2
  have hx : x < 2 ^ (Nat.log2 x + 1) := Nat.lt_log2_self
  have : x * 2 ^ (31 - Nat.log2 x) < 2 ^ (Nat.log2 x + 1) * 2 ^ (31 - Nat.log2 x) := Nat.mul_lt_mul_of_pos_right hx (Nat.two_pow_pos _)
  rw [← Nat.pow_add, show Nat.log2 x + 1 + (31 - Nat.log2 x) = 32 by omega] at this
  exact this

theorem clamp_hi {u a : Int} (ha : a = if u < 0 then 0 else u) (h : a > 65535) : (65535 : Int) = (clampU u : Int) := by
  unfold clampU
  by_cases h0 : u < 0
  · rw [if_pos h0] at ha; omega
  · rw [if_neg h0] at ha; rw [if_neg h0, if_pos (by omega)]; rfl

theorem clamp_lo {u a : Int} (ha : a = if u < 0 then 0 else u) (h : ¬ a > 65535) : a = (clampU u : Int) := by
  unfold clampU
  by_cases h0 : u < 0
  · rw [if_pos h0] at ha; rw [if_pos h0]; omega
  · rw [if_neg h0] at ha; rw [if_neg h0, if_neg (by omega)]; omega

theorem le_of_shr {x d : Nat} (h0 : 1 ≤ x) (h : 0 < x / 2 ^ (d + 1)) : d + 1 ≤ Nat.log2 x := by
  have h1 : 2 ^ (d + 1) ≤ x := by
    rcases Nat.lt_or_ge x (2 ^ (d + 1)) with h2 | h2
    · rw [Nat.div_eq_of_lt h2] at h; omega
    · exact h2
  rcases Nat.lt_or_ge (Nat.log2 x) (d + 1) with h2 | h2
  · have h3 : x < 2 ^ (Nat.log2 x + 1) := Nat.lt_log2_self
    have h4 : 2 ^ (Nat.log2 x + 1) ≤ 2 ^ (d + 1) := Nat.pow_le_pow_right (by decide) h2
    omega
  · exact h2

theorem log2_of_shr {x d : Nat} (h0 : 1 ≤ x) (hd : d ≤ Nat.log2 x) (h : ¬ 0 < x / 2 ^ (d + 1)) : d = Nat.log2 x := by
  rcases Nat.lt_or_ge d (Nat.log2 x) with h2 | h2
  · have h3 := Nat.log2_self_le (n := x) (by omega)
    have h4 : 2 ^ (d + 1) ≤ 2 ^ Nat.log2 x := Nat.pow_le_pow_right (by decide) h2
    have : 0 < x / 2 ^ (d + 1) := Nat.div_pos (Nat.le_trans h4 h3) (Nat.two_pow_pos _)
    omega
  · omega

theorem shr_nat' (x n : Nat) (hn : n ≤ 64) : Int.fdiv (x : Int) (2 ^ (min (Int.toNat ((n : Nat) : Int)) 64)) = ((x / 2 ^ n : Nat) : Int) := by
  rw [Int.toNat_natCast, Nat.min_eq_left hn]; exact shr_nat x n

/-- The digits of the logarithm behind the point: k of them are still to come. -/
def lnLoop : Nat → Nat → Nat → Nat
  | 0, out, _ => out
  | k + 1, out, y => if 4294967296 ≤ y * y / 2147483648 then lnLoop k (out + 2 ^ k) (y * y / 2147483648 / 2) else lnLoop k out (y * y / 2147483648)

theorem lnLoop_hi (k out y p z : Nat) (hp : p = 2 ^ k) (hz : z = y * y / 2147483648) (h : 4294967296 ≤ z) : lnLoop (k + 1) out y = lnLoop k (out + p) (z / 2) := by
  subst hp; subst hz; simp only [lnLoop, if_pos h]

theorem lnLoop_lo (k out y z : Nat) (hz : z = y * y / 2147483648) (h : ¬ 4294967296 ≤ z) : lnLoop (k + 1) out y = lnLoop k out z := by
  subst hz; simp only [lnLoop, if_neg h]

/-- 2^44 times the binary logarithm. -/
def lnF (u : Int) : Nat := lnLoop 44 (Nat.log2 (clampU u + 1) * 17592186044416) ((clampU u + 1) * 2 ^ (31 - Nat.log2 (clampU u + 1)))

theorem lnLoop_le : ∀ k out y, lnLoop k out y ≤ out + 2 ^ k - 1
  | 0, out, y => by simp [lnLoop]
  | k + 1, out, y => by
    have hp : 2 ^ (k + 1) = 2 * 2 ^ k := by rw [Nat.pow_succ]; omega
    have hq : 0 < 2 ^ k := Nat.two_pow_pos k
    simp only [lnLoop]
    split
    · have := lnLoop_le k (out + 2 ^ k) (y * y / 2147483648 / 2); omega
    · have := lnLoop_le k out (y * y / 2147483648); omega

theorem lnF_le (u : Int) : lnF u ≤ 299067162755071 := by
  have h1 := log2_le16 (clampU u + 1) (by have := clampU_le u; omega)
  have := lnLoop_le 44 (Nat.log2 (clampU u + 1) * 17592186044416) ((clampU u + 1) * 2 ^ (31 - Nat.log2 (clampU u + 1)))
  unfold lnF
  have e : 2 ^ 44 = 17592186044416 := by decide
  omega

/-- The length of a straw. -/
def drawF (h w : Int) : Int := if w < 1 then -9223372036854775808 else Int.tdiv ((lnF (IntKind.i64.wrap (iand .u32 h 65535)) : Int) - 281474976710656) w

theorem tdiv_range {a b : Int} (h1 : -562949953421312 ≤ a) (h2 : a ≤ 562949953421312) (hb : 1 ≤ b) : -562949953421312 ≤ Int.tdiv a b ∧ Int.tdiv a b ≤ 562949953421312 := by
  rcases Int.le_total 0 a with h | h
  · rw [Int.tdiv_eq_ediv_of_nonneg h]
    have h3 : 0 ≤ a / b := Int.ediv_nonneg h (by omega)
    have h4 : a / b ≤ a := Int.ediv_le_self _ h
    omega
  · have e : a = -(-a) := by omega
    rw [e, Int.neg_tdiv, Int.tdiv_eq_ediv_of_nonneg (by omega : 0 ≤ -a)]
    have h3 : 0 ≤ (-a) / b := Int.ediv_nonneg (by omega) (by omega)
    have h4 : (-a) / b ≤ -a := Int.ediv_le_self _ (by omega)
    omega

theorem draw_wrap (u w : Int) (hw : ¬ w < 1) : Value.int .i64 (IntKind.i64.wrap (Int.tdiv ((lnF u : Int) - 281474976710656) w)) = .int .i64 (Int.tdiv ((lnF u : Int) - 281474976710656) w) := by
  have h := lnF_le u
  have := tdiv_range (a := (lnF u : Int) - 281474976710656) (b := w) (by omega) (by omega) (by omega)
  exact w64 rfl (by omega) (by omega)

/-- The straw of the one at place i. -/
def strawOf (ids ws : List Int) (x r : Int) (i : Nat) : Int := drawF (hash3F x (IntKind.u32.wrap (ids.getD i 0)) (IntKind.u32.wrap r)) (ws.getD i 0)

/-- One more is looked at: (the longest straw so far, its place). -/
def chStep (ids ws : List Int) (x r : Int) (s : Int × Int) (i : Nat) : Int × Int :=
  if ws.getD i 0 < 1 then s else if (decide (s.2 < 0) || decide (strawOf ids ws x r i > s.1)) = true then (strawOf ids ws x r i, (i : Int)) else s

def chState (ids ws : List Int) (x r : Int) (k : Nat) : Int × Int := (List.range k).foldl (chStep ids ws x r) (0, -1)

theorem chState_zero (ids ws : List Int) (x r : Int) : chState ids ws x r 0 = (0, -1) := rfl
theorem chState_succ (ids ws : List Int) (x r : Int) (k : Nat) : chState ids ws x r (k + 1) = chStep ids ws x r (chState ids ws x r k) k := by
  simp [chState, List.range_succ]

theorem chStep_skip {ids ws : List Int} {x r : Int} {s : Int × Int} {i : Nat} (h : ws.getD i 0 < 1) : chStep ids ws x r s i = s := by unfold chStep; rw [if_pos h]
theorem chStep_take {ids ws : List Int} {x r : Int} {s : Int × Int} {i : Nat} (h : ¬ ws.getD i 0 < 1) (h2 : (decide (s.2 < 0) || decide (strawOf ids ws x r i > s.1)) = true) : chStep ids ws x r s i = (strawOf ids ws x r i, (i : Int)) := by
  unfold chStep; rw [if_neg h, if_pos h2]
theorem chStep_stay {ids ws : List Int} {x r : Int} {s : Int × Int} {i : Nat} (h : ¬ ws.getD i 0 < 1) (h2 : (decide (s.2 < 0) || decide (strawOf ids ws x r i > s.1)) = false) : chStep ids ws x r s i = s := by
  unfold chStep; rw [if_neg h, if_neg (by rw [h2]; simp)]

def chooseF (ids ws : List Int) (x r : Int) : Int × Bool :=
  if ids.length = ws.length then (if 0 > (chState ids ws x r ids.length).2 then 0 else (chState ids ws x r ids.length).2, decide ((chState ids ws x r ids.length).2 ≥ 0)) else (0, false)

theorem chooseF_ne {ids ws : List Int} {x r : Int} (h : ids.length ≠ ws.length) : chooseF ids ws x r = (0, false) := by unfold chooseF; rw [if_neg h]
theorem chooseF_eq {ids ws : List Int} {x r b a : Int} (h : ids.length = ws.length) (hs : chState ids ws x r ids.length = (b, a)) : chooseF ids ws x r = (if 0 > a then 0 else a, decide (a ≥ 0)) := by
  unfold chooseF; rw [if_pos h, hs]

/-- How many of the numbers below k have each one chosen. -/
def shareState (ids ws : List Int) (k : Nat) : List Int :=
  (List.range k).foldl (fun (l : List Int) (x : Nat) => if (chooseF ids ws (IntKind.u32.wrap (x : Int)) 0).2 = true then l.set (chooseF ids ws (IntKind.u32.wrap (x : Int)) 0).1.toNat (l.getD (chooseF ids ws (IntKind.u32.wrap (x : Int)) 0).1.toNat 0 + 1) else l) (List.replicate ids.length 0)

end Go.Proofs.Ytmdmfjgpjpfoaaa
