/-
  CHAPTER 18, PrimaryOnce: plain facts: what the code's searches find.
-/
import Derived.Test.YtjnbkhnebmlilaaGreatP18ob
set_option linter.unusedVariables false
set_option linter.unusedSimpArgs false
set_option maxRecDepth 100000
namespace Go.Proofs.YtjnbkhnebmlilaaGreat
open Go Go.RowKit Sx

def kC (x : Lst) : Int := x.Client
def kI (x : Itm) : List UInt8 := x.Name.toList

theorem m_cmpL (F : Nat) (x : Lst) (c : Int) : m_pglog_look_api_Last_int__1 F x c = some (cmpZ x.Client c) := by
  simp only [m_pglog_look_api_Last_int__1, m_pglog_lastClient, Option.bind_some, m_cmpint]
theorem cmpZ_lt (x y : Int) : decide (cmpZ x y < 0) = oZ.lt x y := by
  show _ = decide (x < y)
  unfold cmpZ
  by_cases h : x < y
  · simp [h]
  · by_cases h2 : y < x <;> simp [h, h2]
theorem cmpZ_eq (x y : Int) : (cmpZ x y == 0) = oZ.eq x y := by
  show _ = (x == y)
  unfold cmpZ
  by_cases h : x < y
  · have : ¬ x = y := by omega
    simp [h, this]
  · by_cases h2 : y < x
    · have : ¬ x = y := by omega
      simp [h, h2, this]
    · have : x = y := by omega
      simp [this]

def cmpS (x y : ByteArray) : Int := if Op.bytesLess x.toList y.toList = true then -1 else if (x.toList == y.toList) = true then 0 else 1
theorem m_cmpstr (F : Nat) (x y : ByteArray) : m_cmp_Compare_string_ F x y = some (cmpS x y) := by
  simp only [m_cmp_Compare_string_, m_cmp_isNaN_string_, Option.bind_some, beq_self_eq_true, Bool.not_true, cond_false, cmpS]
  cases Op.bytesLess x.toList y.toList <;> cases x.toList == y.toList <;> rfl
theorem m_cmpI (F : Nat) (x : Itm) (n : ByteArray) : m_pglog_look_api_Item_string__1 F x n = some (cmpS x.Name n) := by
  simp only [m_pglog_look_api_Item_string__1, m_pglog_itemName, Option.bind_some, m_cmpstr]
theorem cmpS_lt (x y : ByteArray) : decide (cmpS x y < 0) = oS.lt x.toList y.toList := by
  show _ = Op.bytesLess x.toList y.toList
  unfold cmpS
  cases Op.bytesLess x.toList y.toList <;> cases x.toList == y.toList <;> rfl
theorem cmpS_eq (x y : ByteArray) : (cmpS x y == 0) = oS.eq x.toList y.toList := by
  show _ = (x.toList == y.toList)
  unfold cmpS
  cases h : Op.bytesLess x.toList y.toList
  · cases x.toList == y.toList <;> rfl
  · have : (x.toList == y.toList) = false := by
      cases he : x.toList == y.toList with
      | false => rfl
      | true => rw [eq_of_beq he, lex_irrefl] at h; cases h
    rw [this]; rfl

theorem m_lookL (F : Nat) (l : List Lst) (c : Int) (h : l.length ≤ 33554432) (hr : Ris oZ kC l) : m_pglog_look_api_Last_int_ (F + 64) l c = some (((atK oZ kC c l : Nat) : Int), hasK oZ kC c l) := by
  have ha := atK_le oZ kC c l
  simp only [m_pglog_look_api_Last_int_, m_slices_BinarySearchFunc___api_Last_api_Last_int_]
  have key := halving l.length (atK oZ kC c l) (fun i => oZ.lt (kC (l.getD i dS_api_Last)) c) (at_iff oZ kC c dS_api_Last l hr)
    (fun (nx59 : Int × Int → Option (Int × Bool)) (s71 : Int × Int) => match s71 with | (v9_1, v10_1) => (bif decide (v9_1 < v10_1) then grd (I64 (v9_1 + v10_1)) (grd (Ix (IntKind.i64.wrap (Int.fdiv (IntKind.u64.wrap (v9_1 + v10_1)) (2 ^ 1))) l.length) ((m_pglog_look_api_Last_int__1 (F + 64) (l.getD (Int.toNat (IntKind.i64.wrap (Int.fdiv (IntKind.u64.wrap (v9_1 + v10_1)) (2 ^ 1)))) dS_api_Last) c).bind (fun y47 => (bif decide (y47 < 0) then grd (I64 ((IntKind.i64.wrap (Int.fdiv (IntKind.u64.wrap (v9_1 + v10_1)) (2 ^ 1))) + 1)) (nx59 (((IntKind.i64.wrap (Int.fdiv (IntKind.u64.wrap (v9_1 + v10_1)) (2 ^ 1))) + 1), v10_1)) else nx59 (v9_1, (IntKind.i64.wrap (Int.fdiv (IntKind.u64.wrap (v9_1 + v10_1)) (2 ^ 1)))))))) else (bif decide (v9_1 < ((l.length : Nat) : Int)) then grd (Ix v9_1 l.length) ((m_pglog_look_api_Last_int__1 (F + 64) (l.getD (Int.toNat v9_1) dS_api_Last) c).bind (fun y69 => some (v9_1, (y69 == 0)))) else some (v9_1, false))))
    (fun i => some (((i : Nat) : Int), decide (i < l.length) && oZ.eq (kC (l.getD i dS_api_Last)) c))
    (fun nx i j hij hj => by
      have e1 : decide (((i : Nat) : Int) < ((j : Nat) : Int)) = true := by simpa using hij
      simp only [e1, cond_true]
      rw [grd_pos _ (by unfold I64; omega), mid_eq (by omega), grd_pos _ (by unfold Ix; simp; omega), m_cmpL, Option.bind_some, Int.toNat_natCast]
      rw [show decide (cmpZ (l.getD ((i + j) / 2) dS_api_Last).Client c < 0) = oZ.lt (kC (l.getD ((i + j) / 2) dS_api_Last)) c from cmpZ_lt _ _, grd_pos _ (by unfold I64; omega)]
      rfl)
    (fun nx i hi => by
      have e1 : decide (((i : Nat) : Int) < ((i : Nat) : Int)) = false := by simp
      simp only [e1, cond_false]
      by_cases hl : i < l.length
      · have e2 : decide (((i : Nat) : Int) < ((l.length : Nat) : Int)) = true := by simpa using hl
        rw [e2, cond_true, grd_pos _ (by unfold Ix; simp; omega), m_cmpL, Option.bind_some, Int.toNat_natCast, cmpZ_eq]
        simp [hl, kC]
      · have e2 : decide (((i : Nat) : Int) < ((l.length : Nat) : Int)) = false := by simpa using hl
        rw [e2, cond_false]
        simp [hl])
    (F + 63) 0 l.length (Nat.zero_le _) ha (Nat.le_refl _) (by
      have : 2 ^ 63 ≤ 2 ^ (F + 63) := Nat.pow_le_pow_right (by omega) (by omega)
      omega)
  rw [show F + 64 = F + 63 + 1 from rfl]
  refine (congrArg (fun r => Option.bind r _) key).trans ?_
  rw [Option.bind_some, ← hasK_at]

theorem m_lookI (F : Nat) (l : List Itm) (c : ByteArray) (h : l.length ≤ 33554432) (hr : Ris oS kI l) : m_pglog_look_api_Item_string_ (F + 64) l c = some (((atK oS kI c.toList l : Nat) : Int), hasK oS kI c.toList l) := by
  have ha := atK_le oS kI c.toList l
  simp only [m_pglog_look_api_Item_string_, m_slices_BinarySearchFunc___api_Item_api_Item_string_]
  have key := halving l.length (atK oS kI c.toList l) (fun i => oS.lt (kI (l.getD i dS_api_Item)) c.toList) (at_iff oS kI c.toList dS_api_Item l hr)
    (fun (nx59 : Int × Int → Option (Int × Bool)) (s71 : Int × Int) => match s71 with | (v9_1, v10_1) => (bif decide (v9_1 < v10_1) then grd (I64 (v9_1 + v10_1)) (grd (Ix (IntKind.i64.wrap (Int.fdiv (IntKind.u64.wrap (v9_1 + v10_1)) (2 ^ 1))) l.length) ((m_pglog_look_api_Item_string__1 (F + 64) (l.getD (Int.toNat (IntKind.i64.wrap (Int.fdiv (IntKind.u64.wrap (v9_1 + v10_1)) (2 ^ 1)))) dS_api_Item) c).bind (fun y47 => (bif decide (y47 < 0) then grd (I64 ((IntKind.i64.wrap (Int.fdiv (IntKind.u64.wrap (v9_1 + v10_1)) (2 ^ 1))) + 1)) (nx59 (((IntKind.i64.wrap (Int.fdiv (IntKind.u64.wrap (v9_1 + v10_1)) (2 ^ 1))) + 1), v10_1)) else nx59 (v9_1, (IntKind.i64.wrap (Int.fdiv (IntKind.u64.wrap (v9_1 + v10_1)) (2 ^ 1)))))))) else (bif decide (v9_1 < ((l.length : Nat) : Int)) then grd (Ix v9_1 l.length) ((m_pglog_look_api_Item_string__1 (F + 64) (l.getD (Int.toNat v9_1) dS_api_Item) c).bind (fun y69 => some (v9_1, (y69 == 0)))) else some (v9_1, false))))
    (fun i => some (((i : Nat) : Int), decide (i < l.length) && oS.eq (kI (l.getD i dS_api_Item)) c.toList))
    (fun nx i j hij hj => by
      have e1 : decide (((i : Nat) : Int) < ((j : Nat) : Int)) = true := by simpa using hij
      simp only [e1, cond_true]
      rw [grd_pos _ (by unfold I64; omega), mid_eq (by omega), grd_pos _ (by unfold Ix; simp; omega), m_cmpI, Option.bind_some, Int.toNat_natCast]
      rw [show decide (cmpS (l.getD ((i + j) / 2) dS_api_Item).Name c < 0) = oS.lt (kI (l.getD ((i + j) / 2) dS_api_Item)) c.toList from cmpS_lt _ _, grd_pos _ (by unfold I64; omega)]
      rfl)
    (fun nx i hi => by
      have e1 : decide (((i : Nat) : Int) < ((i : Nat) : Int)) = false := by simp
      simp only [e1, cond_false]
      by_cases hl : i < l.length
      · have e2 : decide (((i : Nat) : Int) < ((l.length : Nat) : Int)) = true := by simpa using hl
        rw [e2, cond_true, grd_pos _ (by unfold Ix; simp; omega), m_cmpI, Option.bind_some, Int.toNat_natCast, cmpS_eq]
        simp [hl, kI]
      · have e2 : decide (((i : Nat) : Int) < ((l.length : Nat) : Int)) = false := by simpa using hl
        rw [e2, cond_false]
        simp [hl])
    (F + 63) 0 l.length (Nat.zero_le _) ha (Nat.le_refl _) (by
      have : 2 ^ 63 ≤ 2 ^ (F + 63) := Nat.pow_le_pow_right (by omega) (by omega)
      omega)
  rw [show F + 64 = F + 63 + 1 from rfl]
  refine (congrArg (fun r => Option.bind r _) key).trans ?_
  rw [Option.bind_some, ← hasK_at]

end Go.Proofs.YtjnbkhnebmlilaaGreat
