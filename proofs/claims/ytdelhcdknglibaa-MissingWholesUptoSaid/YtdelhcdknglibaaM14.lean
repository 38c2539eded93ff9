/-
  CHAPTER 14: the models of its functions.
-/
import Derived.Test.YtdelhcdknglibaaProg
import Derived.Test.YtdelhcdknglibaaGxc
set_option linter.unusedVariables false
set_option linter.unusedSimpArgs false
set_option maxRecDepth 100000
namespace Go.Proofs.Ytdelhcdknglibaa
open Go Go.RowKit Sx

structure S_api_Version where
  Epoch : Int
  N : Int
def S_api_Version.row (x : S_api_Version) : List Value := [.int .i64 x.Epoch, .int .i64 x.N]
def dS_api_Version : S_api_Version := S_api_Version.mk 0 0
def S_api_Version.beq (x y : S_api_Version) : Bool := (x.Epoch == y.Epoch) && ((x.N == y.N) && true)
theorem S_api_Version.beq_iff (x y : S_api_Version) : S_api_Version.beq x y = true ↔ x = y := by
  cases x; cases y; simp [S_api_Version.beq, str_beq]

structure S_api_Entry where
  Version : S_api_Version
  Remove : Bool
  Errno : Int
  Name : ByteArray
  Client : Int
  Number : Int
def S_api_Entry.row (x : S_api_Entry) : List Value := [.int .i64 x.Version.Epoch, .int .i64 x.Version.N, .bool x.Remove, .int .i64 x.Errno, .string x.Name, .int .i64 x.Client, .int .i64 x.Number]
def dS_api_Entry : S_api_Entry := S_api_Entry.mk dS_api_Version false 0 (ByteArray.mk #[]) 0 0
def S_api_Entry.beq (x y : S_api_Entry) : Bool := (S_api_Version.beq x.Version y.Version) && ((x.Remove == y.Remove) && ((x.Errno == y.Errno) && ((x.Name == y.Name) && ((x.Client == y.Client) && ((x.Number == y.Number) && true)))))
theorem S_api_Entry.beq_iff (x y : S_api_Entry) : S_api_Entry.beq x y = true ↔ x = y := by
  cases x; cases y; simp [S_api_Entry.beq, str_beq, S_api_Version.beq_iff]

structure S_api_Last where
  Client : Int
  Number : Int
  Errno : Int
  Version : S_api_Version
def S_api_Last.row (x : S_api_Last) : List Value := [.int .i64 x.Client, .int .i64 x.Number, .int .i64 x.Errno, .int .i64 x.Version.Epoch, .int .i64 x.Version.N]
def dS_api_Last : S_api_Last := S_api_Last.mk 0 0 0 dS_api_Version
def S_api_Last.beq (x y : S_api_Last) : Bool := (x.Client == y.Client) && ((x.Number == y.Number) && ((x.Errno == y.Errno) && ((S_api_Version.beq x.Version y.Version) && true)))
theorem S_api_Last.beq_iff (x y : S_api_Last) : S_api_Last.beq x y = true ↔ x = y := by
  cases x; cases y; simp [S_api_Last.beq, str_beq, S_api_Version.beq_iff]

structure S_api_Item where
  Name : ByteArray
  Version : S_api_Version
  Crc : Int
def S_api_Item.row (x : S_api_Item) : List Value := [.string x.Name, .int .i64 x.Version.Epoch, .int .i64 x.Version.N, .int .u32 x.Crc]
def dS_api_Item : S_api_Item := S_api_Item.mk (ByteArray.mk #[]) dS_api_Version 0
def S_api_Item.beq (x y : S_api_Item) : Bool := (x.Name == y.Name) && ((S_api_Version.beq x.Version y.Version) && ((x.Crc == y.Crc) && true))
theorem S_api_Item.beq_iff (x y : S_api_Item) : S_api_Item.beq x y = true ↔ x = y := by
  cases x; cases y; simp [S_api_Item.beq, str_beq, S_api_Version.beq_iff]

@[reducible] def r4 (o : Option Addr) (l : List Bool) : Ent := .rd o 1 (List.map rBo l)
@[reducible] def o4 (o : Option Addr) (c : Nat) (l : List Bool) : Ent := .osl o c 4 1 (List.map rBo l)
@[reducible] def r9 (o : Option Addr) (l : List ByteArray) : Ent := .rd o 1 (List.map rS l)
@[reducible] def o9 (o : Option Addr) (c : Nat) (l : List ByteArray) : Ent := .osl o c 9 1 (List.map rS l)
@[reducible] def r23 (o : Option Addr) (l : List S_api_Version) : Ent := .rd o 2 (List.map S_api_Version.row l)
@[reducible] def o23 (o : Option Addr) (c : Nat) (l : List S_api_Version) : Ent := .osl o c 23 2 (List.map S_api_Version.row l)
@[reducible] def r45 (o : Option Addr) (l : List S_api_Item) : Ent := .rd o 4 (List.map S_api_Item.row l)
@[reducible] def o45 (o : Option Addr) (c : Nat) (l : List S_api_Item) : Ent := .osl o c 45 4 (List.map S_api_Item.row l)
@[reducible] def r53 (o : Option Addr) (l : List S_api_Entry) : Ent := .rd o 7 (List.map S_api_Entry.row l)
@[reducible] def o53 (o : Option Addr) (c : Nat) (l : List S_api_Entry) : Ent := .osl o c 53 7 (List.map S_api_Entry.row l)
@[reducible] def r83 (o : Option Addr) (l : List S_api_Last) : Ent := .rd o 5 (List.map S_api_Last.row l)
@[reducible] def o83 (o : Option Addr) (c : Nat) (l : List S_api_Last) : Ent := .osl o c 83 5 (List.map S_api_Last.row l)

def m_tholelaw14_far (F : Nat) (a0_Les : Int) (a0_Tail : S_api_Version) (a0_Log : List S_api_Entry) (a0_Lasts : List S_api_Last) (a0_Items : List S_api_Item) (a1_Les : Int) (a1_Tail : S_api_Version) (a1_Log : List S_api_Entry) (a1_Lasts : List S_api_Last) (a1_Items : List S_api_Item) : Option (Bool) :=
  grd (I64 (((a0_Log.length : Nat) : Int) + ((a1_Log.length : Nat) : Int))) (grd (I64 ((((a0_Log.length : Nat) : Int) + ((a1_Log.length : Nat) : Int)) + ((a0_Items.length : Nat) : Int))) (grd (I64 (((((a0_Log.length : Nat) : Int) + ((a1_Log.length : Nat) : Int)) + ((a0_Items.length : Nat) : Int)) + ((a1_Items.length : Nat) : Int))) (some (decide ((((((a0_Log.length : Nat) : Int) + ((a1_Log.length : Nat) : Int)) + ((a0_Items.length : Nat) : Int)) + ((a1_Items.length : Nat) : Int)) > 400)))))

def m_missing_has_1 (F : Nat) (a0 : S_api_Entry) (a1 : S_api_Version) : Option (Bool) :=
  some (S_api_Version.beq a0.Version a1)

def m_slices_IndexFunc___api_Entry_api_Entry_ (F : Nat) (a0 : List S_api_Entry) (a1c0 : S_api_Version) : Option (Int) :=
  grd (Len a0.length) (loopL (fun (nx38 : Unit → Option (Int)) (v8_1 : Nat) (x26 : S_api_Entry) (_ : Unit) => (m_missing_has_1 F x26 a1c0).bind (fun y31 => (bif y31 then some ((v8_1 : Nat) : Int) else nx38 ()))) (fun (v8_1 : Nat) (_ : Unit) => some (-1)) a0 0 ())

def m_slices_ContainsFunc___api_Entry_api_Entry_ (F : Nat) (a0 : List S_api_Entry) (a1c0 : S_api_Version) : Option (Bool) :=
  (m_slices_IndexFunc___api_Entry_api_Entry_ F a0 a1c0).bind (fun y3 => some (decide (y3 ≥ 0)))

def m_missing_has (F : Nat) (a0_Les : Int) (a0_Tail : S_api_Version) (a0_Log : List S_api_Entry) (a0_Lasts : List S_api_Last) (a0_Items : List S_api_Item) (a1 : S_api_Version) : Option (Bool) :=
  (bif S_api_Version.beq a0_Tail a1 then some true else (m_slices_ContainsFunc___api_Entry_api_Entry_ F a0_Log a1).bind (fun y4 => some y4))

def m_cmp_isNaN_int_ (F : Nat) (a0 : Int) : Option (Bool) :=
  some (a0 != a0)

def m_cmp_Compare_int_ (F : Nat) (a0 : Int) (a1 : Int) : Option (Int) :=
  (m_cmp_isNaN_int_ F a0).bind (fun y3 => (m_cmp_isNaN_int_ F a1).bind (fun y6 => (bif y3 then (bif y6 then some 0 else some (-1)) else (bif y6 then some 1 else (bif decide (a0 < a1) then some (-1) else (bif decide (a0 > a1) then some 1 else some 0))))))

def m_pglog_Cmp (F : Nat) (a0 : S_api_Version) (a1 : S_api_Version) : Option (Int) :=
  (m_cmp_Compare_int_ F a0.Epoch a1.Epoch).bind (fun y3 => (bif y3 != 0 then some y3 else (m_cmp_Compare_int_ F a0.N a1.N).bind (fun y9 => some y9)))

def m_missing_Common_1 (F : Nat) (a0 : S_api_Version) (a1_Les : Int) (a1_Tail : S_api_Version) (a1_Log : List S_api_Entry) (a1_Lasts : List S_api_Last) (a1_Items : List S_api_Item) (a2 : Bool) (a3 : S_api_Version) : Option (Bool × S_api_Version) :=
  jn (fun (v17_0 : Bool) => (bif v17_0 then some (true, a0) else some (a2, a3))) (fun (J6 : Bool → Option (Bool × S_api_Version)) => (m_missing_has F a1_Les a1_Tail a1_Log a1_Lasts a1_Items a0).bind (fun y3 => (bif y3 then (bif !a2 then J6 true else (m_pglog_Cmp F a0 a3).bind (fun y7 => J6 (decide (y7 > 0)))) else J6 false)))

def m_missing_Common (F : Nat) (a0_Les : Int) (a0_Tail : S_api_Version) (a0_Log : List S_api_Entry) (a0_Lasts : List S_api_Last) (a0_Items : List S_api_Item) (a1_Les : Int) (a1_Tail : S_api_Version) (a1_Log : List S_api_Entry) (a1_Lasts : List S_api_Last) (a1_Items : List S_api_Item) : Option (S_api_Version × Bool) :=
  (m_missing_Common_1 F (S_api_Version.mk a0_Tail.Epoch a0_Tail.N) a1_Les a1_Tail a1_Log a1_Lasts a1_Items false (S_api_Version.mk 0 0)).bind (fun y5 => grd (Len a0_Log.length) (loopL (fun (nx41 : Int × Int × Bool → Option (S_api_Version × Bool)) (v20_1 : Nat) (x30 : S_api_Entry) (s49 : Int × Int × Bool) => match s49 with | (c10_0_1, c10_1_1, c11_0_1) => (m_missing_Common_1 F x30.Version a1_Les a1_Tail a1_Log a1_Lasts a1_Items c11_0_1 (S_api_Version.mk c10_0_1 c10_1_1)).bind (fun y35 => nx41 (y35.2.Epoch, y35.2.N, y35.1))) (fun (v20_1 : Nat) (s50 : Int × Int × Bool) => match s50 with | (c10_0_1, c10_1_1, c11_0_1) => some ((S_api_Version.mk c10_0_1 c10_1_1), c11_0_1)) a0_Log 0 (y5.2.Epoch, y5.2.N, y5.1)))

def m_missing_above (F : Nat) (a0_Les : Int) (a0_Tail : S_api_Version) (a0_Log : List S_api_Entry) (a0_Lasts : List S_api_Last) (a0_Items : List S_api_Item) (a1 : S_api_Version) : Option (List S_api_Entry) :=
  grd (Len a0_Log.length) (loopL (fun (nx64 : List S_api_Entry → Option (List S_api_Entry)) (v11_1 : Nat) (x43 : S_api_Entry) (l20000_1 : List S_api_Entry) => (m_pglog_Cmp F x43.Version a1).bind (fun y48 => (bif decide (y48 > 0) then grd (App (l20000_1.length + [x43].length) 64) (nx64 (l20000_1 ++ [x43])) else nx64 l20000_1))) (fun (v11_1 : Nat) (l20000_1 : List S_api_Entry) => some l20000_1) a0_Log 0 ([] : List S_api_Entry))

def m_missing_Divergent (F : Nat) (a0_Les : Int) (a0_Tail : S_api_Version) (a0_Log : List S_api_Entry) (a0_Lasts : List S_api_Last) (a0_Items : List S_api_Item) (a1_Les : Int) (a1_Tail : S_api_Version) (a1_Log : List S_api_Entry) (a1_Lasts : List S_api_Last) (a1_Items : List S_api_Item) : Option (List S_api_Entry) :=
  (m_missing_Common F a0_Les a0_Tail a0_Log a0_Lasts a0_Items a1_Les a1_Tail a1_Log a1_Lasts a1_Items).bind (fun y3 => (bif !y3.2 then some ([] : List S_api_Entry) else (m_missing_above F a0_Les a0_Tail a0_Log a0_Lasts a0_Items y3.1).bind (fun y9 => some y9)))

def m_missing_Lacking (F : Nat) (a0_Les : Int) (a0_Tail : S_api_Version) (a0_Log : List S_api_Entry) (a0_Lasts : List S_api_Last) (a0_Items : List S_api_Item) (a1_Les : Int) (a1_Tail : S_api_Version) (a1_Log : List S_api_Entry) (a1_Lasts : List S_api_Last) (a1_Items : List S_api_Item) : Option (List S_api_Entry) :=
  (m_missing_Common F a0_Les a0_Tail a0_Log a0_Lasts a0_Items a1_Les a1_Tail a1_Log a1_Lasts a1_Items).bind (fun y3 => (bif !y3.2 then some ([] : List S_api_Entry) else (m_missing_above F a1_Les a1_Tail a1_Log a1_Lasts a1_Items y3.1).bind (fun y9 => some y9)))

def m_math_bits_Len64 (F : Nat) (a0 : Int) : Option (Int) :=
  jn (fun (s30 : Int × Nat) => match s30 with | (v0_0, v2_0) => jn (fun (s29 : Int × Nat) => match s29 with | (v0_0, v2_0) => jn (fun (s28 : Int × Nat) => match s28 with | (v0_0, v2_0) => grd (Ix (IntKind.u8.wrap v0_0) (ByteArray.mk #[0, 1, 2, 2, 3, 3, 3, 3, 4, 4, 4, 4, 4, 4, 4, 4, 5, 5, 5, 5, 5, 5, 5, 5, 5, 5, 5, 5, 5, 5, 5, 5, 6, 6, 6, 6, 6, 6, 6, 6, 6, 6, 6, 6, 6, 6, 6, 6, 6, 6, 6, 6, 6, 6, 6, 6, 6, 6, 6, 6, 6, 6, 6, 6, 7, 7, 7, 7, 7, 7, 7, 7, 7, 7, 7, 7, 7, 7, 7, 7, 7, 7, 7, 7, 7, 7, 7, 7, 7, 7, 7, 7, 7, 7, 7, 7, 7, 7, 7, 7, 7, 7, 7, 7, 7, 7, 7, 7, 7, 7, 7, 7, 7, 7, 7, 7, 7, 7, 7, 7, 7, 7, 7, 7, 7, 7, 7, 7, 8, 8, 8, 8, 8, 8, 8, 8, 8, 8, 8, 8, 8, 8, 8, 8, 8, 8, 8, 8, 8, 8, 8, 8, 8, 8, 8, 8, 8, 8, 8, 8, 8, 8, 8, 8, 8, 8, 8, 8, 8, 8, 8, 8, 8, 8, 8, 8, 8, 8, 8, 8, 8, 8, 8, 8, 8, 8, 8, 8, 8, 8, 8, 8, 8, 8, 8, 8, 8, 8, 8, 8, 8, 8, 8, 8, 8, 8, 8, 8, 8, 8, 8, 8, 8, 8, 8, 8, 8, 8, 8, 8, 8, 8, 8, 8, 8, 8, 8, 8, 8, 8, 8, 8, 8, 8, 8, 8, 8, 8, 8, 8, 8, 8, 8, 8, 8, 8, 8, 8, 8, 8, 8, 8, 8, 8, 8, 8]).size) (grd (I64 (((v2_0 : Nat) : Int) + (IntKind.i64.wrap ((((ByteArray.mk #[0, 1, 2, 2, 3, 3, 3, 3, 4, 4, 4, 4, 4, 4, 4, 4, 5, 5, 5, 5, 5, 5, 5, 5, 5, 5, 5, 5, 5, 5, 5, 5, 6, 6, 6, 6, 6, 6, 6, 6, 6, 6, 6, 6, 6, 6, 6, 6, 6, 6, 6, 6, 6, 6, 6, 6, 6, 6, 6, 6, 6, 6, 6, 6, 7, 7, 7, 7, 7, 7, 7, 7, 7, 7, 7, 7, 7, 7, 7, 7, 7, 7, 7, 7, 7, 7, 7, 7, 7, 7, 7, 7, 7, 7, 7, 7, 7, 7, 7, 7, 7, 7, 7, 7, 7, 7, 7, 7, 7, 7, 7, 7, 7, 7, 7, 7, 7, 7, 7, 7, 7, 7, 7, 7, 7, 7, 7, 7, 8, 8, 8, 8, 8, 8, 8, 8, 8, 8, 8, 8, 8, 8, 8, 8, 8, 8, 8, 8, 8, 8, 8, 8, 8, 8, 8, 8, 8, 8, 8, 8, 8, 8, 8, 8, 8, 8, 8, 8, 8, 8, 8, 8, 8, 8, 8, 8, 8, 8, 8, 8, 8, 8, 8, 8, 8, 8, 8, 8, 8, 8, 8, 8, 8, 8, 8, 8, 8, 8, 8, 8, 8, 8, 8, 8, 8, 8, 8, 8, 8, 8, 8, 8, 8, 8, 8, 8, 8, 8, 8, 8, 8, 8, 8, 8, 8, 8, 8, 8, 8, 8, 8, 8, 8, 8, 8, 8, 8, 8, 8, 8, 8, 8, 8, 8, 8, 8, 8, 8, 8, 8, 8, 8, 8, 8, 8, 8]).data.getD (Int.toNat (IntKind.u8.wrap v0_0)) 0).toNat : Nat) : Int)))) (some (((v2_0 : Nat) : Int) + (IntKind.i64.wrap ((((ByteArray.mk #[0, 1, 2, 2, 3, 3, 3, 3, 4, 4, 4, 4, 4, 4, 4, 4, 5, 5, 5, 5, 5, 5, 5, 5, 5, 5, 5, 5, 5, 5, 5, 5, 6, 6, 6, 6, 6, 6, 6, 6, 6, 6, 6, 6, 6, 6, 6, 6, 6, 6, 6, 6, 6, 6, 6, 6, 6, 6, 6, 6, 6, 6, 6, 6, 7, 7, 7, 7, 7, 7, 7, 7, 7, 7, 7, 7, 7, 7, 7, 7, 7, 7, 7, 7, 7, 7, 7, 7, 7, 7, 7, 7, 7, 7, 7, 7, 7, 7, 7, 7, 7, 7, 7, 7, 7, 7, 7, 7, 7, 7, 7, 7, 7, 7, 7, 7, 7, 7, 7, 7, 7, 7, 7, 7, 7, 7, 7, 7, 8, 8, 8, 8, 8, 8, 8, 8, 8, 8, 8, 8, 8, 8, 8, 8, 8, 8, 8, 8, 8, 8, 8, 8, 8, 8, 8, 8, 8, 8, 8, 8, 8, 8, 8, 8, 8, 8, 8, 8, 8, 8, 8, 8, 8, 8, 8, 8, 8, 8, 8, 8, 8, 8, 8, 8, 8, 8, 8, 8, 8, 8, 8, 8, 8, 8, 8, 8, 8, 8, 8, 8, 8, 8, 8, 8, 8, 8, 8, 8, 8, 8, 8, 8, 8, 8, 8, 8, 8, 8, 8, 8, 8, 8, 8, 8, 8, 8, 8, 8, 8, 8, 8, 8, 8, 8, 8, 8, 8, 8, 8, 8, 8, 8, 8, 8, 8, 8, 8, 8, 8, 8, 8, 8, 8, 8, 8, 8]).data.getD (Int.toNat (IntKind.u8.wrap v0_0)) 0).toNat : Nat) : Int)))))) (fun (J22 : Int × Nat → Option (Int)) => (bif decide (v0_0 ≥ 256) then grd (Len (v2_0 + 8)) (J22 ((Int.fdiv v0_0 (2 ^ 8)), v2_0 + 8)) else J22 (v0_0, v2_0)))) (fun (J14 : Int × Nat → Option (Int)) => (bif decide (v0_0 ≥ 65536) then grd (Len (v2_0 + 16)) (J14 ((Int.fdiv v0_0 (2 ^ 16)), v2_0 + 16)) else J14 (v0_0, v2_0)))) (fun (J6 : Int × Nat → Option (Int)) => (bif decide (a0 ≥ 4294967296) then J6 ((Int.fdiv a0 (2 ^ 32)), 32) else J6 (a0, 0)))

def m_math_bits_Len (F : Nat) (a0 : Int) : Option (Int) :=
  (m_math_bits_Len64 F a0).bind (fun y3 => some y3)

def m_cmp_isNaN_string_ (F : Nat) (a0 : ByteArray) : Option (Bool) :=
  some (!(a0.toList == a0.toList))

def m_cmp_Less_string_ (F : Nat) (a0 : ByteArray) (a1 : ByteArray) : Option (Bool) :=
  (m_cmp_isNaN_string_ F a0).bind (fun y3 => (bif y3 then (m_cmp_isNaN_string_ F a1).bind (fun y6 => (bif !y6 then some true else some (Op.bytesLess a0.toList a1.toList))) else some (Op.bytesLess a0.toList a1.toList)))

def m_slices_insertionSortOrdered_string_ (F : Nat) (a0 : List ByteArray) (a1 : Int) (a2 : Int) : Option (List ByteArray) :=
  grd (I64 (a1 + 1)) (loopW (fun (nx151 : Int × List ByteArray → Option (List ByteArray)) (s159 : Int × List ByteArray) => match s159 with | (v6_1, l1_1) => (bif decide (v6_1 < a2) then loopW (fun (nx142 : Int × List ByteArray → Option (List ByteArray)) (s158 : Int × List ByteArray) => match s158 with | (v7_4, l1_4) => jn (fun (v30_5 : Bool) => (bif v30_5 then grd (I64 (v7_4 - 1)) (grd (Ix (v7_4 - 1) l1_4.length) (grd (Ix v7_4 l1_4.length) (grd (Ix (v7_4 - 1) (l1_4.set (Int.toNat v7_4) (l1_4.getD (Int.toNat (v7_4 - 1)) (ByteArray.mk #[]))).length) (nx142 ((v7_4 - 1), ((l1_4.set (Int.toNat v7_4) (l1_4.getD (Int.toNat (v7_4 - 1)) (ByteArray.mk #[]))).set (Int.toNat (v7_4 - 1)) (l1_4.getD (Int.toNat v7_4) (ByteArray.mk #[])))))))) else grd (I64 (v6_1 + 1)) (nx151 ((v6_1 + 1), l1_4)))) (fun (J132 : Bool → Option (List ByteArray)) => (bif decide (v7_4 > a1) then grd (Ix v7_4 l1_4.length) (grd (I64 (v7_4 - 1)) (grd (Ix (v7_4 - 1) l1_4.length) ((m_cmp_Less_string_ F (l1_4.getD (Int.toNat v7_4) (ByteArray.mk #[])) (l1_4.getD (Int.toNat (v7_4 - 1)) (ByteArray.mk #[]))).bind (fun y135 => J132 y135)))) else J132 false))) F (v6_1, l1_1) else some l1_1)) F ((a1 + 1), a0))

def m_slices_pdqsortOrdered_string_ (F : Nat) (a0 : List ByteArray) (a1 : Int) (a2 : Int) (a3 : Int) : Option (List ByteArray) :=
  grd (I64 (a2 - a1)) ((bif decide ((a2 - a1) ≤ 12) then (m_slices_insertionSortOrdered_string_ F a0 a1 a2).bind (fun y8 => grd (y8.length = a0.length) (some y8)) else (bif a3 == 0 then none else none)))

def m_slices_Sort___string_string_ (F : Nat) (a0 : List ByteArray) : Option (List ByteArray) :=
  (m_math_bits_Len F (IntKind.u64.wrap ((a0.length : Nat) : Int))).bind (fun y3 => (m_slices_pdqsortOrdered_string_ F a0 0 ((a0.length : Nat) : Int) y3).bind (fun y5 => grd (y5.length = a0.length) (some y5)))

def m_slices_Compact___string_string_ (F : Nat) (a0 : List ByteArray) : Option (List ByteArray) :=
  (bif decide (((a0.length : Nat) : Int) < 2) then some a0 else grd (Len a0.length) (loopL (fun (nx43 : Unit → Option (List ByteArray)) (v3_1 : Nat) (x30 : ByteArray) (_ : Unit) => grd (I64 (((v3_1 : Nat) : Int) - 1)) (grd (Ix (((v3_1 : Nat) : Int) - 1) a0.length) ((bif x30.toList == (a0.getD (Int.toNat (((v3_1 : Nat) : Int) - 1)) (ByteArray.mk #[])).toList then none else nx43 ())))) (fun (v3_1 : Nat) (_ : Unit) => some a0) (a0.drop 1) 1 ()))

def m_missing_Touched (F : Nat) (a0_Les : Int) (a0_Tail : S_api_Version) (a0_Log : List S_api_Entry) (a0_Lasts : List S_api_Last) (a0_Items : List S_api_Item) (a1_Les : Int) (a1_Tail : S_api_Version) (a1_Log : List S_api_Entry) (a1_Lasts : List S_api_Last) (a1_Items : List S_api_Item) : Option (List ByteArray) :=
  (m_missing_Divergent F a0_Les a0_Tail a0_Log a0_Lasts a0_Items a1_Les a1_Tail a1_Log a1_Lasts a1_Items).bind (fun y4 => (m_missing_Lacking F a0_Les a0_Tail a0_Log a0_Lasts a0_Items a1_Les a1_Tail a1_Log a1_Lasts a1_Items).bind (fun y8 => grd (App (y4.length + y8.length) 64) (grd (Len (y4 ++ y8).length) (loopL (fun (nx68 : List ByteArray → Option (List ByteArray)) (v16_1 : Nat) (x49 : S_api_Entry) (l20000_1 : List ByteArray) => (bif x49.Errno == 0 then grd (App (l20000_1.length + [x49.Name].length) 16) (nx68 (l20000_1 ++ [x49.Name])) else nx68 l20000_1)) (fun (v16_1 : Nat) (l20000_1 : List ByteArray) => (m_slices_Sort___string_string_ F l20000_1).bind (fun y76 => grd (y76.length = l20000_1.length) ((m_slices_Compact___string_string_ F y76).bind (fun y81 => some y81)))) (y4 ++ y8) 0 ([] : List ByteArray)))))

def m_pglog_Find (F : Nat) (a0_Les : Int) (a0_Tail : S_api_Version) (a0_Log : List S_api_Entry) (a0_Lasts : List S_api_Last) (a0_Items : List S_api_Item) (a1 : ByteArray) : Option (S_api_Item × Bool) :=
  grd (Len a0_Items.length) (loopL (fun (nx32 : Unit → Option (S_api_Item × Bool)) (v11_1 : Nat) (x22 : S_api_Item) (_ : Unit) => (bif x22.Name.toList == a1.toList then some (x22, true) else nx32 ())) (fun (v11_1 : Nat) (_ : Unit) => some ((S_api_Item.mk (ByteArray.mk #[]) (S_api_Version.mk 0 0) 0), false)) a0_Items 0 ())

def m_missing_Diff (F : Nat) (a0_Les : Int) (a0_Tail : S_api_Version) (a0_Log : List S_api_Entry) (a0_Lasts : List S_api_Last) (a0_Items : List S_api_Item) (a1_Les : Int) (a1_Tail : S_api_Version) (a1_Log : List S_api_Entry) (a1_Lasts : List S_api_Last) (a1_Items : List S_api_Item) : Option (List S_api_Item × List ByteArray × Bool) :=
  (m_missing_Common F a0_Les a0_Tail a0_Log a0_Lasts a0_Items a1_Les a1_Tail a1_Log a1_Lasts a1_Items).bind (fun y3 => (bif !y3.2 then some (([] : List S_api_Item), ([] : List ByteArray), false) else (m_missing_Touched F a0_Les a0_Tail a0_Log a0_Lasts a0_Items a1_Les a1_Tail a1_Log a1_Lasts a1_Items).bind (fun y11 => grd (Len y11.length) (loopL (fun (nx145 : List S_api_Item × List ByteArray → Option (List S_api_Item × List ByteArray × Bool)) (v29_1 : Nat) (x101 : ByteArray) (s153 : List S_api_Item × List ByteArray) => match s153 with | (l20000_1, l20001_1) => (m_pglog_Find F a1_Les a1_Tail a1_Log a1_Lasts a1_Items x101).bind (fun y106 => (m_pglog_Find F a0_Les a0_Tail a0_Log a0_Lasts a0_Items x101).bind (fun y109 => jn (fun (v45_4 : Bool) => (bif v45_4 then grd (App (l20000_1.length + [y106.1].length) 40) (nx145 ((l20000_1 ++ [y106.1]), l20001_1)) else jn (fun (v60_5 : Bool) => (bif v60_5 then grd (App (l20001_1.length + [x101].length) 16) (nx145 (l20000_1, (l20001_1 ++ [x101]))) else nx145 (l20000_1, l20001_1))) (fun (J121 : Bool → Option (List S_api_Item × List ByteArray × Bool)) => (bif !y106.2 then J121 y109.2 else J121 false)))) (fun (J113 : Bool → Option (List S_api_Item × List ByteArray × Bool)) => (bif y106.2 then (bif !y109.2 then J113 true else J113 (!(S_api_Item.beq y109.1 y106.1))) else J113 false))))) (fun (v29_1 : Nat) (s154 : List S_api_Item × List ByteArray) => match s154 with | (l20000_1, l20001_1) => some (l20000_1, l20001_1, true)) y11 0 (([] : List S_api_Item), ([] : List ByteArray))))))

def m_tholelaw14_awake (F : Nat) : Option (Bool) :=
  (m_missing_Diff F 0 (S_api_Version.mk 0 0) [(S_api_Entry.mk (S_api_Version.mk 1 1) false 0 (ByteArray.mk #[97]) 0 0), (S_api_Entry.mk (S_api_Version.mk 1 2) false 0 (ByteArray.mk #[98]) 0 0)] ([] : List S_api_Last) [(S_api_Item.mk (ByteArray.mk #[97]) (S_api_Version.mk 1 1) 0), (S_api_Item.mk (ByteArray.mk #[98]) (S_api_Version.mk 1 2) 0)] 0 (S_api_Version.mk 0 0) [(S_api_Entry.mk (S_api_Version.mk 1 1) false 0 (ByteArray.mk #[97]) 0 0), (S_api_Entry.mk (S_api_Version.mk 3 1) false 0 (ByteArray.mk #[99]) 0 0)] ([] : List S_api_Last) [(S_api_Item.mk (ByteArray.mk #[97]) (S_api_Version.mk 1 1) 0), (S_api_Item.mk (ByteArray.mk #[99]) (S_api_Version.mk 3 1) 0)]).bind (fun y8 => (bif y8.2.2 then (bif ((y8.1.length : Nat) : Int) == 1 then grd (0 < y8.1.length) ((bif ((y8.1.getD 0 dS_api_Item).Name).toList == (ByteArray.mk #[99]).toList then (bif ((y8.2.1.length : Nat) : Int) == 1 then grd (0 < y8.2.1.length) (some ((y8.2.1.getD 0 (ByteArray.mk #[])).toList == (ByteArray.mk #[98]).toList)) else some false) else some false)) else some false) else some false))

def m_tholeref14_marks (F : Nat) (a0_Les : Int) (a0_Tail : S_api_Version) (a0_Log : List S_api_Entry) (a0_Lasts : List S_api_Last) (a0_Items : List S_api_Item) : Option (List S_api_Version) :=
  grd (Len a0_Log.length) (loopL (fun (nx31 : List S_api_Version → Option (List S_api_Version)) (v12_1 : Nat) (x22 : S_api_Entry) (l5_1 : List S_api_Version) => grd (App (l5_1.length + [x22.Version].length) 16) (nx31 (l5_1 ++ [x22.Version]))) (fun (v12_1 : Nat) (l5_1 : List S_api_Version) => some l5_1) a0_Log 0 [a0_Tail])

def m_tholeref13_Cmp (F : Nat) (a0 : S_api_Version) (a1 : S_api_Version) : Option (Int) :=
  jn (fun (v5_1 : Bool) => (bif v5_1 then some (-1) else (bif S_api_Version.beq a0 a1 then some 0 else some 1))) (fun (J9 : Bool → Option (Int)) => (bif decide (a0.Epoch < a1.Epoch) then J9 (decide (a0.Epoch < a1.Epoch)) else (bif a0.Epoch == a1.Epoch then J9 (decide (a0.N < a1.N)) else J9 false)))

def m_tholeref14_Common (F : Nat) (a0_Les : Int) (a0_Tail : S_api_Version) (a0_Log : List S_api_Entry) (a0_Lasts : List S_api_Last) (a0_Items : List S_api_Item) (a1_Les : Int) (a1_Tail : S_api_Version) (a1_Log : List S_api_Entry) (a1_Lasts : List S_api_Last) (a1_Items : List S_api_Item) : Option (S_api_Version × Bool) :=
  (m_tholeref14_marks F a0_Les a0_Tail a0_Log a0_Lasts a0_Items).bind (fun y4 => grd (Len y4.length) (loopL (fun (nx261 : Bool × Int × Int → Option (S_api_Version × Bool)) (v16_1 : Nat) (x177 : S_api_Version) (s271 : Bool × Int × Int) => match s271 with | (v7_1, c10_0_1, c10_1_1) => (m_tholeref14_marks F a1_Les a1_Tail a1_Log a1_Lasts a1_Items).bind (fun y182 => grd (Len y182.length) (loopL (fun (nx251 : Bool × Int × Int → Option (S_api_Version × Bool)) (v23_4 : Nat) (x229 : S_api_Version) (s269 : Bool × Int × Int) => match s269 with | (v7_4, c10_0_4, c10_1_4) => jn (fun (v39_6 : Bool) => (bif v39_6 then nx251 (true, x177.Epoch, x177.N) else nx251 (v7_4, c10_0_4, c10_1_4))) (fun (J235 : Bool → Option (S_api_Version × Bool)) => (bif S_api_Version.beq x177 x229 then (bif !v7_4 then J235 true else (m_tholeref13_Cmp F x177 (S_api_Version.mk c10_0_4 c10_1_4)).bind (fun y236 => J235 (decide (y236 > 0)))) else J235 false))) (fun (v23_4 : Nat) (s270 : Bool × Int × Int) => match s270 with | (v7_4, c10_0_4, c10_1_4) => nx261 (v7_4, c10_0_4, c10_1_4)) y182 0 (v7_1, c10_0_1, c10_1_1)))) (fun (v16_1 : Nat) (s272 : Bool × Int × Int) => match s272 with | (v7_1, c10_0_1, c10_1_1) => some ((S_api_Version.mk c10_0_1 c10_1_1), v7_1)) y4 0 (false, 0, 0)))

def m_tholeref14_above (F : Nat) (a0_Les : Int) (a0_Tail : S_api_Version) (a0_Log : List S_api_Entry) (a0_Lasts : List S_api_Last) (a0_Items : List S_api_Item) (a1 : S_api_Version) : Option (List S_api_Entry) :=
  grd (Len a0_Log.length) (loopL (fun (nx64 : List S_api_Entry → Option (List S_api_Entry)) (v11_1 : Nat) (x43 : S_api_Entry) (l20000_1 : List S_api_Entry) => (m_tholeref13_Cmp F x43.Version a1).bind (fun y48 => (bif decide (y48 > 0) then grd (App (l20000_1.length + [x43].length) 64) (nx64 (l20000_1 ++ [x43])) else nx64 l20000_1))) (fun (v11_1 : Nat) (l20000_1 : List S_api_Entry) => some l20000_1) a0_Log 0 ([] : List S_api_Entry))

def m_tholeref14_Divergent (F : Nat) (a0_Les : Int) (a0_Tail : S_api_Version) (a0_Log : List S_api_Entry) (a0_Lasts : List S_api_Last) (a0_Items : List S_api_Item) (a1_Les : Int) (a1_Tail : S_api_Version) (a1_Log : List S_api_Entry) (a1_Lasts : List S_api_Last) (a1_Items : List S_api_Item) : Option (List S_api_Entry) :=
  (m_tholeref14_Common F a0_Les a0_Tail a0_Log a0_Lasts a0_Items a1_Les a1_Tail a1_Log a1_Lasts a1_Items).bind (fun y3 => (bif !y3.2 then some ([] : List S_api_Entry) else (m_tholeref14_above F a0_Les a0_Tail a0_Log a0_Lasts a0_Items y3.1).bind (fun y9 => some y9)))

def m_tholelaw14_entries (F : Nat) (a0 : List S_api_Entry) (a1 : List S_api_Entry) : Option (Bool) :=
  (bif ((a0.length : Nat) : Int) != ((a1.length : Nat) : Int) then some false else grd (Len a0.length) (loopL (fun (nx38 : Unit → Option (Bool)) (v13_1 : Nat) (x27 : S_api_Entry) (_ : Unit) => grd (v13_1 < a1.length) ((bif !(S_api_Entry.beq x27 (a1.getD v13_1 dS_api_Entry)) then some false else nx38 ()))) (fun (v13_1 : Nat) (_ : Unit) => some true) a0 0 ()))

def m_tholeref14_Lacking (F : Nat) (a0_Les : Int) (a0_Tail : S_api_Version) (a0_Log : List S_api_Entry) (a0_Lasts : List S_api_Last) (a0_Items : List S_api_Item) (a1_Les : Int) (a1_Tail : S_api_Version) (a1_Log : List S_api_Entry) (a1_Lasts : List S_api_Last) (a1_Items : List S_api_Item) : Option (List S_api_Entry) :=
  (m_tholeref14_Common F a0_Les a0_Tail a0_Log a0_Lasts a0_Items a1_Les a1_Tail a1_Log a1_Lasts a1_Items).bind (fun y3 => (bif !y3.2 then some ([] : List S_api_Entry) else (m_tholeref14_above F a1_Les a1_Tail a1_Log a1_Lasts a1_Items y3.1).bind (fun y9 => some y9)))

def m_tholelaw14_MissingMeets (F : Nat) (a0_Les : Int) (a0_Tail : S_api_Version) (a0_Log : List S_api_Entry) (a0_Lasts : List S_api_Last) (a0_Items : List S_api_Item) (a1_Les : Int) (a1_Tail : S_api_Version) (a1_Log : List S_api_Entry) (a1_Lasts : List S_api_Last) (a1_Items : List S_api_Item) : Option (Bool) :=
  (m_tholelaw14_far F a0_Les a0_Tail a0_Log a0_Lasts a0_Items a1_Les a1_Tail a1_Log a1_Lasts a1_Items).bind (fun y3 => (bif y3 then (m_tholelaw14_awake F).bind (fun y7 => some y7) else (m_missing_Common F a0_Les a0_Tail a0_Log a0_Lasts a0_Items a1_Les a1_Tail a1_Log a1_Lasts a1_Items).bind (fun y10 => (m_tholeref14_Common F a0_Les a0_Tail a0_Log a0_Lasts a0_Items a1_Les a1_Tail a1_Log a1_Lasts a1_Items).bind (fun y13 => (bif S_api_Version.beq y10.1 y13.1 then (bif y10.2 == y13.2 then (m_missing_Divergent F a0_Les a0_Tail a0_Log a0_Lasts a0_Items a1_Les a1_Tail a1_Log a1_Lasts a1_Items).bind (fun y18 => (m_tholeref14_Divergent F a0_Les a0_Tail a0_Log a0_Lasts a0_Items a1_Les a1_Tail a1_Log a1_Lasts a1_Items).bind (fun y22 => (m_tholelaw14_entries F y18 y22).bind (fun y26 => (bif y26 then (m_missing_Lacking F a0_Les a0_Tail a0_Log a0_Lasts a0_Items a1_Les a1_Tail a1_Log a1_Lasts a1_Items).bind (fun y29 => (m_tholeref14_Lacking F a0_Les a0_Tail a0_Log a0_Lasts a0_Items a1_Les a1_Tail a1_Log a1_Lasts a1_Items).bind (fun y33 => (m_tholelaw14_entries F y29 y33).bind (fun y37 => (bif y37 then (m_tholelaw14_awake F).bind (fun y40 => some y40) else some false)))) else some false)))) else some false) else some false)))))

def m_slices_Clone___api_Item_api_Item_ (F : Nat) (a0 : List S_api_Item) : Option (List S_api_Item) :=
  grd (App (([] : List S_api_Item).length + a0.length) 40) (some (([] : List S_api_Item) ++ a0))

def m_slices_Index___api_Item_api_Item_ (F : Nat) (a0 : List S_api_Item) (a1 : S_api_Item) : Option (Int) :=
  grd (Len a0.length) (loopL (fun (nx32 : Unit → Option (Int)) (v8_1 : Nat) (x22 : S_api_Item) (_ : Unit) => (bif S_api_Item.beq a1 x22 then some ((v8_1 : Nat) : Int) else nx32 ())) (fun (v8_1 : Nat) (_ : Unit) => some (-1)) a0 0 ())

def m_slices_Delete___api_Item_api_Item_ (F : Nat) (a0 : List S_api_Item) (a1 : Int) (a2 : Int) : Option (List S_api_Item) :=
  grd (Bd a2 a0.length) (grd (Bd a1 (Int.toNat a2)) ((bif a1 == a2 then some a0 else grd (Bd a1 a0.length) (grd (App ((Int.toNat a1) + (a0.length - (Int.toNat a2))) 40) (grd ((Int.toNat a1) ≤ (Int.toNat a2)) (grd ((a0.take (Int.toNat a1) ++ a0.drop (Int.toNat a2)).length ≤ a0.length) (some (a0.take (Int.toNat a1) ++ a0.drop (Int.toNat a2)))))))))

def m_missing_Whole (F : Nat) (a0_Les : Int) (a0_Tail : S_api_Version) (a0_Log : List S_api_Entry) (a0_Lasts : List S_api_Last) (a0_Items : List S_api_Item) (a1 : List S_api_Item) : Option (Bool) :=
  (bif ((a1.length : Nat) : Int) != ((a0_Items.length : Nat) : Int) then some false else (m_slices_Clone___api_Item_api_Item_ F a1).bind (fun y6 => grd (Len a0_Items.length) (loopL (fun (nx74 : List S_api_Item → Option (Bool)) (v20_1 : Nat) (x53 : S_api_Item) (l6_1 : List S_api_Item) => (m_slices_Index___api_Item_api_Item_ F l6_1 x53).bind (fun y58 => (bif decide (y58 < 0) then some false else grd (I64 (y58 + 1)) ((m_slices_Delete___api_Item_api_Item_ F l6_1 y58 (y58 + 1)).bind (fun y65 => nx74 y65))))) (fun (v20_1 : Nat) (l6_1 : List S_api_Item) => some true) a0_Items 0 y6)))

def m_tholeref14_Whole (F : Nat) (a0_Les : Int) (a0_Tail : S_api_Version) (a0_Log : List S_api_Entry) (a0_Lasts : List S_api_Last) (a0_Items : List S_api_Item) (a1 : List S_api_Item) : Option (Bool) :=
  (bif ((a1.length : Nat) : Int) != ((a0_Items.length : Nat) : Int) then some false else grd (a1.length * 1 ≤ 281474976710656) (grd (Len a1.length) (grd (Len a0_Items.length) (loopL (fun (nx275 : List Bool → Option (Bool)) (v23_1 : Nat) (x186 : S_api_Item) (l6_1 : List Bool) => loopL (fun (nx262 : Bool × List Bool → Option (Bool)) (v29_4 : Nat) (x238 : S_api_Item) (s283 : Bool × List Bool) => match s283 with | (v8_4, l6_4) => jn (fun (v47_6 : Bool) => (bif v47_6 then grd (v29_4 < l6_4.length) (nx262 (true, (l6_4.set v29_4 true))) else nx262 (v8_4, l6_4))) (fun (J244 : Bool → Option (Bool)) => (bif !v8_4 then grd (v29_4 < l6_4.length) ((bif !(l6_4.getD v29_4 false) then J244 (S_api_Item.beq x186 x238) else J244 false)) else J244 false))) (fun (v29_4 : Nat) (s284 : Bool × List Bool) => match s284 with | (v8_4, l6_4) => (bif !v8_4 then some false else nx275 l6_4)) a1 0 (false, l6_1)) (fun (v23_1 : Nat) (l6_1 : List Bool) => some true) a0_Items 0 (List.replicate a1.length false)))))

def m_tholelaw14_MissingWholes (F : Nat) (a0_Les : Int) (a0_Tail : S_api_Version) (a0_Log : List S_api_Entry) (a0_Lasts : List S_api_Last) (a0_Items : List S_api_Item) (a1 : List S_api_Item) : Option (Bool) :=
  grd (I64 (((a0_Items.length : Nat) : Int) + ((a1.length : Nat) : Int))) ((bif decide ((((a0_Items.length : Nat) : Int) + ((a1.length : Nat) : Int)) > 400) then (m_tholelaw14_awake F).bind (fun y6 => some y6) else (m_missing_Whole F a0_Les a0_Tail a0_Log a0_Lasts a0_Items a1).bind (fun y9 => (m_tholeref14_Whole F a0_Les a0_Tail a0_Log a0_Lasts a0_Items a1).bind (fun y11 => (bif y9 == y11 then grd (App (([] : List S_api_Item).length + a0_Items.length) 40) ((m_missing_Whole F a0_Les a0_Tail a0_Log a0_Lasts a0_Items (([] : List S_api_Item) ++ a0_Items)).bind (fun y15 => (bif y15 then (m_tholelaw14_awake F).bind (fun y18 => some y18) else some false))) else some false)))))

end Go.Proofs.Ytdelhcdknglibaa
