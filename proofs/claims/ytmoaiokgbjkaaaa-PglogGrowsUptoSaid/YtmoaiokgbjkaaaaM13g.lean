/-
  CHAPTER 13g: the models of its functions.
-/
import Derived.Test.YtmoaiokgbjkaaaaProg
import Derived.Test.YtmoaiokgbjkaaaaGxl
set_option linter.unusedVariables false
set_option linter.unusedSimpArgs false
set_option maxRecDepth 100000
namespace Go.Proofs.Ytmoaiokgbjkaaaa
open Go Go.RowKit Sx

structure S_tholelaw13_Put where
  Name : ByteArray
  Remove : Bool
  Errno : Int
  Client : Int
  Number : Int
  Crc : Int
def S_tholelaw13_Put.row (x : S_tholelaw13_Put) : List Value := [.string x.Name, .bool x.Remove, .int .i64 x.Errno, .int .i64 x.Client, .int .i64 x.Number, .int .u32 x.Crc]
def S_tholelaw13_Put.beq (x y : S_tholelaw13_Put) : Bool := (x.Name == y.Name) && ((x.Remove == y.Remove) && ((x.Errno == y.Errno) && ((x.Client == y.Client) && ((x.Number == y.Number) && ((x.Crc == y.Crc) && true)))))
theorem S_tholelaw13_Put.beq_iff (x y : S_tholelaw13_Put) : S_tholelaw13_Put.beq x y = true ↔ x = y := by
  cases x; cases y; simp [S_tholelaw13_Put.beq, str_beq]

structure S_api_Version where
  Epoch : Int
  N : Int
def S_api_Version.row (x : S_api_Version) : List Value := [.int .i64 x.Epoch, .int .i64 x.N]
def dS_api_Version : S_api_Version := S_api_Version.mk 0 0
def S_api_Version.beq (x y : S_api_Version) : Bool := (x.Epoch == y.Epoch) && ((x.N == y.N) && true)
theorem S_api_Version.beq_iff (x y : S_api_Version) : S_api_Version.beq x y = true ↔ x = y := by
  cases x; cases y; simp [S_api_Version.beq, str_beq]

structure S_api_Entry where
  Version : S_api_Version
  Remove : Bool
  Errno : Int
  Name : ByteArray
  Client : Int
  Number : Int
def S_api_Entry.row (x : S_api_Entry) : List Value := [.int .i64 x.Version.Epoch, .int .i64 x.Version.N, .bool x.Remove, .int .i64 x.Errno, .string x.Name, .int .i64 x.Client, .int .i64 x.Number]
def dS_api_Entry : S_api_Entry := S_api_Entry.mk dS_api_Version false 0 (ByteArray.mk #[]) 0 0
def S_api_Entry.beq (x y : S_api_Entry) : Bool := (S_api_Version.beq x.Version y.Version) && ((x.Remove == y.Remove) && ((x.Errno == y.Errno) && ((x.Name == y.Name) && ((x.Client == y.Client) && ((x.Number == y.Number) && true)))))
theorem S_api_Entry.beq_iff (x y : S_api_Entry) : S_api_Entry.beq x y = true ↔ x = y := by
  cases x; cases y; simp [S_api_Entry.beq, str_beq, S_api_Version.beq_iff]

structure S_api_Item where
  Name : ByteArray
  Version : S_api_Version
  Crc : Int
def S_api_Item.row (x : S_api_Item) : List Value := [.string x.Name, .int .i64 x.Version.Epoch, .int .i64 x.Version.N, .int .u32 x.Crc]
def dS_api_Item : S_api_Item := S_api_Item.mk (ByteArray.mk #[]) dS_api_Version 0
def S_api_Item.beq (x y : S_api_Item) : Bool := (x.Name == y.Name) && ((S_api_Version.beq x.Version y.Version) && ((x.Crc == y.Crc) && true))
theorem S_api_Item.beq_iff (x y : S_api_Item) : S_api_Item.beq x y = true ↔ x = y := by
  cases x; cases y; simp [S_api_Item.beq, str_beq, S_api_Version.beq_iff]

structure S_api_Last where
  Client : Int
  Number : Int
  Errno : Int
  Version : S_api_Version
def S_api_Last.row (x : S_api_Last) : List Value := [.int .i64 x.Client, .int .i64 x.Number, .int .i64 x.Errno, .int .i64 x.Version.Epoch, .int .i64 x.Version.N]
def dS_api_Last : S_api_Last := S_api_Last.mk 0 0 0 dS_api_Version
def S_api_Last.beq (x y : S_api_Last) : Bool := (x.Client == y.Client) && ((x.Number == y.Number) && ((x.Errno == y.Errno) && ((S_api_Version.beq x.Version y.Version) && true)))
theorem S_api_Last.beq_iff (x y : S_api_Last) : S_api_Last.beq x y = true ↔ x = y := by
  cases x; cases y; simp [S_api_Last.beq, str_beq, S_api_Version.beq_iff]

@[reducible] def r42 (o : Option Addr) (l : List S_api_Item) : Ent := .rd o 4 (List.map S_api_Item.row l)
@[reducible] def o42 (o : Option Addr) (c : Nat) (l : List S_api_Item) : Ent := .osl o c 42 4 (List.map S_api_Item.row l)
@[reducible] def r47 (o : Option Addr) (l : List S_api_Last) : Ent := .rd o 5 (List.map S_api_Last.row l)
@[reducible] def o47 (o : Option Addr) (c : Nat) (l : List S_api_Last) : Ent := .osl o c 47 5 (List.map S_api_Last.row l)
@[reducible] def r52 (o : Option Addr) (l : List S_api_Entry) : Ent := .rd o 7 (List.map S_api_Entry.row l)
@[reducible] def o52 (o : Option Addr) (c : Nat) (l : List S_api_Entry) : Ent := .osl o c 52 7 (List.map S_api_Entry.row l)
@[reducible] def r66 (o : Option Addr) (l : List S_tholelaw13_Put) : Ent := .rd o 6 (List.map S_tholelaw13_Put.row l)
@[reducible] def kc0 : List Value := [.int .i64 0, .int .i64 0, .int .i64 0, .slice none 0 0, .slice none 0 0, .slice none 0 0]
@[reducible] def kc1 (p0 : ByteArray) (p1 : Bool) (p2 : Int) (p3 : Int) (p4 : Int) (p5 : Int) : List Value := [.string p0, .bool p1, .int .i64 p2, .int .i64 p3, .int .i64 p4, .int .u32 p5]
@[reducible] def kc4 (p0 : Int) (p1 : Int) (p2 : Bool) (p3 : Int) (p4 : ByteArray) (p5 : Int) (p6 : Int) : List Value := [.int .i64 p0, .int .i64 p1, .bool p2, .int .i64 p3, .string p4, .int .i64 p5, .int .i64 p6]
@[reducible] def kc5 : List Value := [.string (ByteArray.mk #[]), .int .i64 0, .int .i64 0, .int .u32 0]
@[reducible] def kc6 (p0 : ByteArray) (p1 : Int) (p2 : Int) (p3 : Int) : List Value := [.string p0, .int .i64 p1, .int .i64 p2, .int .u32 p3]
@[reducible] def kc9 (p0 : Int) (p1 : Int) (p2 : Int) (p3 : Option Addr) (p4 : Nat) (p5 : Nat) (p6 : Option Addr) (p7 : Nat) (p8 : Nat) (p9 : Option Addr) (p10 : Nat) (p11 : Nat) : List Value := [.int .i64 p0, .int .i64 p1, .int .i64 p2, .slice p3 p4 p5, .slice p6 p7 p8, .slice p9 p10 p11]
@[reducible] def kc10 (p0 : Int) (p1 : Int) (p2 : Int) (p3 : Int) (p4 : Int) : List Value := [.int .i64 p0, .int .i64 p1, .int .i64 p2, .int .i64 p3, .int .i64 p4]
@[reducible] def kc11 : List Value := [.int .i64 0, .int .i64 0, .int .i64 0, .int .i64 0, .int .i64 0]
@[reducible] def kc12 : List Value := [.int .i64 1, .int .i64 1, .bool false, .int .i64 0, .string (ByteArray.mk #[102]), .int .i64 3, .int .i64 1]
@[reducible] def kc13 (p0 : Option Addr) (p1 : Nat) : List Value := [.int .i64 0, .int .i64 0, .int .i64 0, .slice p0 0 p1, .slice none 0 0, .slice none 0 0]
@[reducible] def kc14 (p0 : Option Addr) (p1 : Nat) (p2 : Option Addr) (p3 : Nat) : List Value := [.int .i64 0, .int .i64 0, .int .i64 0, .slice p0 0 p1, .slice p2 0 p3, .slice none 0 0]
@[reducible] def kc15 (p0 : Option Addr) (p1 : Nat) (p2 : Option Addr) (p3 : Nat) (p4 : Option Addr) (p5 : Nat) : List Value := [.int .i64 0, .int .i64 0, .int .i64 0, .slice p0 0 p1, .slice p2 0 p3, .slice p4 0 p5]
@[reducible] def kc16 (p0 : Option Addr) (p1 : Nat) (p2 : Option Addr) (p3 : Nat) (p4 : Option Addr) (p5 : Nat) : List Value := [.int .i64 0, .int .i64 0, .int .i64 0, .slice p0 1 p1, .slice p2 0 p3, .slice p4 0 p5]
@[reducible] def kc17 : List Value := [.int .i64 3, .int .i64 1, .int .i64 0, .int .i64 1, .int .i64 1]
@[reducible] def kc18 (p0 : Option Addr) (p1 : Nat) (p2 : Option Addr) (p3 : Nat) (p4 : Option Addr) (p5 : Nat) : List Value := [.int .i64 0, .int .i64 0, .int .i64 0, .slice p0 1 p1, .slice p2 1 p3, .slice p4 0 p5]
@[reducible] def kc19 : List Value := [.string (ByteArray.mk #[102]), .int .i64 1, .int .i64 1, .int .u32 7]
@[reducible] def kc20 (p0 : Option Addr) (p1 : Nat) (p2 : Option Addr) (p3 : Nat) (p4 : Option Addr) (p5 : Nat) : List Value := [.int .i64 0, .int .i64 0, .int .i64 0, .slice p0 1 p1, .slice p2 1 p3, .slice p4 1 p5]
@[reducible] def kc21 : List Value := [.int .i64 1, .int .i64 2, .bool true, .int .i64 0, .string (ByteArray.mk #[102]), .int .i64 3, .int .i64 2]
@[reducible] def kc22 (p0 : Option Addr) (p1 : Nat) (p2 : Option Addr) (p3 : Nat) (p4 : Option Addr) (p5 : Nat) : List Value := [.int .i64 0, .int .i64 0, .int .i64 0, .slice p0 2 p1, .slice p2 1 p3, .slice p4 1 p5]
@[reducible] def kc23 : List Value := [.int .i64 3, .int .i64 2, .int .i64 0, .int .i64 1, .int .i64 2]
@[reducible] def kc24 : List Value := [.string (ByteArray.mk #[102]), .int .i64 1, .int .i64 2, .int .u32 0]
@[reducible] def kc25 (p0 : Option Addr) (p1 : Nat) (p2 : Option Addr) (p3 : Nat) (p4 : Option Addr) (p5 : Nat) : List Value := [.int .i64 0, .int .i64 0, .int .i64 0, .slice p0 2 p1, .slice p2 1 p3, .slice p4 0 p5]

def m_cmp_isNaN_int_ (F : Nat) (a0 : Int) : Option (Bool) :=
  some (a0 != a0)

def m_cmp_Compare_int_ (F : Nat) (a0 : Int) (a1 : Int) : Option (Int) :=
  (m_cmp_isNaN_int_ F a0).bind (fun y3 => (m_cmp_isNaN_int_ F a1).bind (fun y6 => (bif y3 then (bif y6 then some 0 else some (-1)) else (bif y6 then some 1 else (bif decide (a0 < a1) then some (-1) else (bif decide (a0 > a1) then some 1 else some 0))))))

def m_pglog_Cmp (F : Nat) (a0 : S_api_Version) (a1 : S_api_Version) : Option (Int) :=
  (m_cmp_Compare_int_ F a0.Epoch a1.Epoch).bind (fun y3 => (bif y3 != 0 then some y3 else (m_cmp_Compare_int_ F a0.N a1.N).bind (fun y9 => some y9)))

def m_place_Good (F : Nat) (a0 : ByteArray) : Option (Bool) :=
  grd (((a0.size : Nat) : Int) ≤ 9223372036854775807) (loopC (fun (nx50 : Unit → Option (Bool)) (v7_1 : Nat) (_ : Unit) => grd (v7_1 < a0.size) (jn (fun (v13_4 : Bool) => (bif v13_4 then some false else nx50 ())) (fun (J42 : Bool → Option (Bool)) => (bif decide ((((a0.data.getD v7_1 0).toNat : Nat) : Int) < 33) then J42 (decide ((((a0.data.getD v7_1 0).toNat : Nat) : Int) < 33)) else J42 (decide ((((a0.data.getD v7_1 0).toNat : Nat) : Int) > 126)))))) (fun (v7_1 : Nat) (_ : Unit) => (bif !(a0.toList == (ByteArray.mk #[]).toList) then some (decide (((a0.size : Nat) : Int) ≤ 64)) else some false)) (Int.toNat (((a0.size : Nat) : Int) - ((0 : Nat) : Int))) 0 ())

def m_pglog_lastClient (F : Nat) (a0 : S_api_Last) : Option (Int) :=
  some a0.Client

def m_pglog_look_api_Last_int__1 (F : Nat) (a0 : S_api_Last) (a1 : Int) : Option (Int) :=
  (m_pglog_lastClient F a0).bind (fun y3 => (m_cmp_Compare_int_ F y3 a1).bind (fun y5 => some y5))

def m_slices_BinarySearchFunc___api_Last_api_Last_int_ (F : Nat) (a0 : List S_api_Last) (a1 : Int) : Option (Int × Bool) :=
  loopW (fun (nx59 : Int × Int → Option (Int × Bool)) (s71 : Int × Int) => match s71 with | (v9_1, v10_1) => (bif decide (v9_1 < v10_1) then grd (I64 (v9_1 + v10_1)) (grd (Ix (IntKind.i64.wrap (Int.fdiv (IntKind.u64.wrap (v9_1 + v10_1)) (2 ^ 1))) a0.length) ((m_pglog_look_api_Last_int__1 F (a0.getD (Int.toNat (IntKind.i64.wrap (Int.fdiv (IntKind.u64.wrap (v9_1 + v10_1)) (2 ^ 1)))) dS_api_Last) a1).bind (fun y47 => (bif decide (y47 < 0) then grd (I64 ((IntKind.i64.wrap (Int.fdiv (IntKind.u64.wrap (v9_1 + v10_1)) (2 ^ 1))) + 1)) (nx59 (((IntKind.i64.wrap (Int.fdiv (IntKind.u64.wrap (v9_1 + v10_1)) (2 ^ 1))) + 1), v10_1)) else nx59 (v9_1, (IntKind.i64.wrap (Int.fdiv (IntKind.u64.wrap (v9_1 + v10_1)) (2 ^ 1)))))))) else (bif decide (v9_1 < ((a0.length : Nat) : Int)) then grd (Ix v9_1 a0.length) ((m_pglog_look_api_Last_int__1 F (a0.getD (Int.toNat v9_1) dS_api_Last) a1).bind (fun y69 => some (v9_1, (y69 == 0)))) else some (v9_1, false)))) F (0, ((a0.length : Nat) : Int))

def m_pglog_look_api_Last_int_ (F : Nat) (a0 : List S_api_Last) (a2 : Int) : Option (Int × Bool) :=
  (m_slices_BinarySearchFunc___api_Last_api_Last_int_ F a0 a2).bind (fun y3 => some (y3.1, y3.2))

def m_pglog_itemName (F : Nat) (a0 : S_api_Item) : Option (ByteArray) :=
  some a0.Name

def m_cmp_isNaN_string_ (F : Nat) (a0 : ByteArray) : Option (Bool) :=
  some (!(a0.toList == a0.toList))

def m_cmp_Compare_string_ (F : Nat) (a0 : ByteArray) (a1 : ByteArray) : Option (Int) :=
  (m_cmp_isNaN_string_ F a0).bind (fun y3 => (m_cmp_isNaN_string_ F a1).bind (fun y6 => (bif y3 then (bif y6 then some 0 else some (-1)) else (bif y6 then some 1 else (bif Op.bytesLess a0.toList a1.toList then some (-1) else (bif !(Op.bytesLess a0.toList a1.toList || a0.toList == a1.toList) then some 1 else some 0))))))

def m_pglog_look_api_Item_string__1 (F : Nat) (a0 : S_api_Item) (a1 : ByteArray) : Option (Int) :=
  (m_pglog_itemName F a0).bind (fun y3 => (m_cmp_Compare_string_ F y3 a1).bind (fun y5 => some y5))

def m_slices_BinarySearchFunc___api_Item_api_Item_string_ (F : Nat) (a0 : List S_api_Item) (a1 : ByteArray) : Option (Int × Bool) :=
  loopW (fun (nx59 : Int × Int → Option (Int × Bool)) (s71 : Int × Int) => match s71 with | (v9_1, v10_1) => (bif decide (v9_1 < v10_1) then grd (I64 (v9_1 + v10_1)) (grd (Ix (IntKind.i64.wrap (Int.fdiv (IntKind.u64.wrap (v9_1 + v10_1)) (2 ^ 1))) a0.length) ((m_pglog_look_api_Item_string__1 F (a0.getD (Int.toNat (IntKind.i64.wrap (Int.fdiv (IntKind.u64.wrap (v9_1 + v10_1)) (2 ^ 1)))) dS_api_Item) a1).bind (fun y47 => (bif decide (y47 < 0) then grd (I64 ((IntKind.i64.wrap (Int.fdiv (IntKind.u64.wrap (v9_1 + v10_1)) (2 ^ 1))) + 1)) (nx59 (((IntKind.i64.wrap (Int.fdiv (IntKind.u64.wrap (v9_1 + v10_1)) (2 ^ 1))) + 1), v10_1)) else nx59 (v9_1, (IntKind.i64.wrap (Int.fdiv (IntKind.u64.wrap (v9_1 + v10_1)) (2 ^ 1)))))))) else (bif decide (v9_1 < ((a0.length : Nat) : Int)) then grd (Ix v9_1 a0.length) ((m_pglog_look_api_Item_string__1 F (a0.getD (Int.toNat v9_1) dS_api_Item) a1).bind (fun y69 => some (v9_1, (y69 == 0)))) else some (v9_1, false)))) F (0, ((a0.length : Nat) : Int))

def m_pglog_look_api_Item_string_ (F : Nat) (a0 : List S_api_Item) (a2 : ByteArray) : Option (Int × Bool) :=
  (m_slices_BinarySearchFunc___api_Item_api_Item_string_ F a0 a2).bind (fun y3 => some (y3.1, y3.2))

def m_slices_Delete___api_Item_api_Item_ (F : Nat) (a0 : List S_api_Item) (a1 : Int) (a2 : Int) : Option (List S_api_Item) :=
  grd (Bd a2 a0.length) (grd (Bd a1 (Int.toNat a2)) ((bif a1 == a2 then some a0 else grd (Bd a1 a0.length) (grd (App ((Int.toNat a1) + (a0.length - (Int.toNat a2))) 40) (grd ((Int.toNat a1) ≤ (Int.toNat a2)) (grd ((a0.take (Int.toNat a1) ++ a0.drop (Int.toNat a2)).length ≤ a0.length) (some (a0.take (Int.toNat a1) ++ a0.drop (Int.toNat a2)))))))))

def m_pglog_below (F : Nat) (a0 : S_api_Version) : Option (Bool) :=
  (bif decide (a0.Epoch < 0) then some true else some (decide (a0.N < 0)))

def m_pglog_rising_api_Item_string_ (F : Nat) (a0 : List S_api_Item) : Option (Bool) :=
  grd (Len a0.length) (loopL (fun (nx46 : Unit → Option (Bool)) (v5_1 : Nat) (x31 : S_api_Item) (_ : Unit) => grd (I64 (((v5_1 : Nat) : Int) - 1)) (grd (Ix (((v5_1 : Nat) : Int) - 1) a0.length) ((m_pglog_itemName F (a0.getD (Int.toNat (((v5_1 : Nat) : Int) - 1)) dS_api_Item)).bind (fun y37 => (m_pglog_itemName F x31).bind (fun y39 => (bif !(Op.bytesLess y37.toList y39.toList) then some false else nx46 ())))))) (fun (v5_1 : Nat) (_ : Unit) => some true) (a0.drop 1) 1 ())

def m_pglog_rising_api_Last_int_ (F : Nat) (a0 : List S_api_Last) : Option (Bool) :=
  grd (Len a0.length) (loopL (fun (nx46 : Unit → Option (Bool)) (v5_1 : Nat) (x31 : S_api_Last) (_ : Unit) => grd (I64 (((v5_1 : Nat) : Int) - 1)) (grd (Ix (((v5_1 : Nat) : Int) - 1) a0.length) ((m_pglog_lastClient F (a0.getD (Int.toNat (((v5_1 : Nat) : Int) - 1)) dS_api_Last)).bind (fun y37 => (m_pglog_lastClient F x31).bind (fun y39 => (bif decide (y37 ≥ y39) then some false else nx46 ())))))) (fun (v5_1 : Nat) (_ : Unit) => some true) (a0.drop 1) 1 ())

def m_pglog_Check (F : Nat) (a0_Les : Int) (a0_Tail : S_api_Version) (a0_Log : List S_api_Entry) (a0_Lasts : List S_api_Last) (a0_Items : List S_api_Item) : Option (Int) :=
  jn (fun (v23_1 : Bool) => (bif v23_1 then some 22 else grd (Len a0_Log.length) (loopL (fun (nx70 : Int × Int → Option (Int)) (v29_2 : Nat) (x51 : S_api_Entry) (s223 : Int × Int) => match s223 with | (c5_0_2, c5_1_2) => jn (fun (v42_5 : Bool) => (bif v42_5 then some 22 else nx70 (x51.Version.Epoch, x51.Version.N))) (fun (J61 : Bool → Option (Int)) => (m_pglog_below F x51.Version).bind (fun y56 => (bif y56 then J61 true else (m_pglog_Cmp F x51.Version (S_api_Version.mk c5_0_2 c5_1_2)).bind (fun y59 => J61 (decide (y59 ≤ 0))))))) (fun (v29_2 : Nat) (s224 : Int × Int) => match s224 with | (c5_0_2, c5_1_2) => jn (fun (v55_6 : Bool) => (bif v55_6 then some 22 else grd (Len a0_Items.length) (loopL (fun (nx154 : Unit → Option (Int)) (v59_7 : Nat) (x132 : S_api_Item) (_ : Unit) => jn (fun (v84_10 : Bool) => (bif v84_10 then some 22 else nx154 ())) (fun (J146 : Bool → Option (Int)) => (m_place_Good F x132.Name).bind (fun y137 => (bif !y137 then J146 true else (m_pglog_below F x132.Version).bind (fun y140 => (bif y140 then J146 true else (bif S_api_Version.beq x132.Version (S_api_Version.mk 0 0) then J146 true else (m_pglog_Cmp F x132.Version (S_api_Version.mk c5_0_2 c5_1_2)).bind (fun y144 => J146 (decide (y144 > 0)))))))))) (fun (v59_7 : Nat) (_ : Unit) => grd (Len a0_Lasts.length) (loopL (fun (nx215 : Unit → Option (Int)) (v89_11 : Nat) (x197 : S_api_Last) (_ : Unit) => jn (fun (v102_14 : Bool) => (bif v102_14 then some 22 else nx215 ())) (fun (J207 : Bool → Option (Int)) => (m_pglog_below F x197.Version).bind (fun y202 => (bif y202 then J207 true else (m_pglog_Cmp F x197.Version (S_api_Version.mk c5_0_2 c5_1_2)).bind (fun y205 => J207 (decide (y205 > 0))))))) (fun (v89_11 : Nat) (_ : Unit) => some 0) a0_Lasts 0 ())) a0_Items 0 ()))) (fun (J83 : Bool → Option (Int)) => (m_pglog_rising_api_Item_string_ F a0_Items).bind (fun y78 => (bif !y78 then J83 true else (m_pglog_rising_api_Last_int_ F a0_Lasts).bind (fun y81 => J83 (!y81)))))) a0_Log 0 (a0_Tail.Epoch, a0_Tail.N)))) (fun (J7 : Bool → Option (Int)) => (bif decide (a0_Les < 0) then J7 true else (m_pglog_below F a0_Tail).bind (fun y4 => (bif y4 then J7 true else J7 (decide (((a0_Items.length : Nat) : Int) > 32))))))

def m_pglog_Head_2 (F : Nat) (a0_Les : Int) (a0_Tail : S_api_Version) (a0_Log : List S_api_Entry) (a0_Lasts : List S_api_Last) (a0_Items : List S_api_Item) : Option (S_api_Version) :=
  (bif decide (((a0_Log.length : Nat) : Int) > 0) then grd (I64 (((a0_Log.length : Nat) : Int) - 1)) (grd (Ix (((a0_Log.length : Nat) : Int) - 1) a0_Log.length) (some ((a0_Log.getD (Int.toNat (((a0_Log.length : Nat) : Int) - 1)) dS_api_Entry).Version))) else some a0_Tail)

def m_pglog_Seen (F : Nat) (a0_Les : Int) (a0_Tail : S_api_Version) (a0_Log : List S_api_Entry) (a0_Lasts : List S_api_Last) (a0_Items : List S_api_Item) (a1 : Int) (a2 : Int) : Option (S_api_Last × Int) :=
  grd (Len a0_Lasts.length) (loopL (fun (nx50 : Unit → Option (S_api_Last × Int)) (v13_1 : Nat) (x34 : S_api_Last) (_ : Unit) => (bif x34.Client != a1 then nx50 () else (bif a2 == x34.Number then some (x34, 1) else (bif decide (a2 < x34.Number) then some (x34, 2) else some ((S_api_Last.mk 0 0 0 (S_api_Version.mk 0 0)), 0))))) (fun (v13_1 : Nat) (_ : Unit) => some ((S_api_Last.mk 0 0 0 (S_api_Version.mk 0 0)), 0)) a0_Lasts 0 ())

def m_pglog_Find_2 (F : Nat) (a0_Les : Int) (a0_Tail : S_api_Version) (a0_Log : List S_api_Entry) (a0_Lasts : List S_api_Last) (a0_Items : List S_api_Item) (a1 : ByteArray) : Option (S_api_Item × Bool) :=
  grd (Len a0_Items.length) (loopL (fun (nx32 : Unit → Option (S_api_Item × Bool)) (v11_1 : Nat) (x22 : S_api_Item) (_ : Unit) => (bif x22.Name.toList == a1.toList then some (x22, true) else nx32 ())) (fun (v11_1 : Nat) (_ : Unit) => some ((S_api_Item.mk (ByteArray.mk #[]) (S_api_Version.mk 0 0) 0), false)) a0_Items 0 ())

def m_pglog_Copy_2 (F : Nat) (a0_Les : Int) (a0_Tail : S_api_Version) (a0_Log : List S_api_Entry) (a0_Lasts : List S_api_Last) (a0_Items : List S_api_Item) : Option (Int × S_api_Version × List S_api_Entry × List S_api_Last × List S_api_Item) :=
  grd (App a0_Log.length 64) (grd (App a0_Lasts.length 40) (grd (App a0_Items.length 40) (some (a0_Les, a0_Tail, a0_Log, a0_Lasts, a0_Items))))

def m_pglog_Append_2 (F : Nat) (a0_Les : Int) (a0_Tail : S_api_Version) (a0_Log : List S_api_Entry) (a0_Lasts : List S_api_Last) (a0_Items : List S_api_Item) (a1 : S_api_Entry) (a2 : Int) : Option (Int × S_api_Version × List S_api_Entry × List S_api_Last × List S_api_Item × Int) :=
  (m_pglog_Find_2 F a0_Les a0_Tail a0_Log a0_Lasts a0_Items a1.Name).bind (fun y3 => jn (fun (v23_1 : Bool) => (bif v23_1 then some (0, (S_api_Version.mk 0 0), ([] : List S_api_Entry), ([] : List S_api_Last), ([] : List S_api_Item), 22) else (m_place_Good F a1.Name).bind (fun y18 => (bif !y18 then some (0, (S_api_Version.mk 0 0), ([] : List S_api_Entry), ([] : List S_api_Last), ([] : List S_api_Item), 36) else jn (fun (v47_2 : Bool) => (bif v47_2 then some (0, (S_api_Version.mk 0 0), ([] : List S_api_Entry), ([] : List S_api_Last), ([] : List S_api_Item), 28) else (m_pglog_Copy_2 F a0_Les a0_Tail a0_Log a0_Lasts a0_Items).bind (fun y30 => grd (App (y30.2.2.1.length + [a1].length) 64) ((m_pglog_look_api_Last_int_ F y30.2.2.2.1 a1.Client).bind (fun y43 => jn (fun (l9_3 : List S_api_Last) => (bif a1.Errno != 0 then some (y30.1, y30.2.1, (y30.2.2.1 ++ [a1]), l9_3, y30.2.2.2.2, 0) else (m_pglog_look_api_Item_string_ F y30.2.2.2.2 a1.Name).bind (fun y64 => jn (fun (v130_4 : Bool) => (bif v130_4 then grd (I64 (y64.1 + 1)) ((m_slices_Delete___api_Item_api_Item_ F y30.2.2.2.2 y64.1 (y64.1 + 1)).bind (fun y75 => some (y30.1, y30.2.1, (y30.2.2.1 ++ [a1]), l9_3, y75, 0))) else (bif a1.Remove then some (y30.1, y30.2.1, (y30.2.2.1 ++ [a1]), l9_3, y30.2.2.2.2, 0) else (bif y64.2 then grd (Ix y64.1 y30.2.2.2.2.length) (some (y30.1, y30.2.1, (y30.2.2.1 ++ [a1]), l9_3, (y30.2.2.2.2.set (Int.toNat y64.1) (S_api_Item.mk a1.Name a1.Version a2)), 0)) else grd ([(S_api_Item.mk a1.Name a1.Version a2)].length = 1) (grd (0 ≤ y64.1) (grd (Int.toNat y64.1 ≤ y30.2.2.2.2.length) (grd (App (y30.2.2.2.2.length + 1) 40) (some (y30.1, y30.2.1, (y30.2.2.1 ++ [a1]), l9_3, (y30.2.2.2.2.take (Int.toNat y64.1) ++ ([(S_api_Item.mk a1.Name a1.Version a2)] ++ y30.2.2.2.2.drop (Int.toNat y64.1))), 0))))))))) (fun (J69 : Bool → Option (Int × S_api_Version × List S_api_Entry × List S_api_Last × List S_api_Item × Int)) => (bif a1.Remove then J69 y64.2 else J69 false))))) (fun (J57 : List S_api_Last → Option (Int × S_api_Version × List S_api_Entry × List S_api_Last × List S_api_Item × Int)) => (bif y43.2 then grd (Ix y43.1 y30.2.2.2.1.length) (J57 (y30.2.2.2.1.set (Int.toNat y43.1) (S_api_Last.mk a1.Client a1.Number a1.Errno a1.Version))) else grd ([(S_api_Last.mk a1.Client a1.Number a1.Errno a1.Version)].length = 1) (grd (0 ≤ y43.1) (grd (Int.toNat y43.1 ≤ y30.2.2.2.1.length) (grd (App (y30.2.2.2.1.length + 1) 40) (J57 (y30.2.2.2.1.take (Int.toNat y43.1) ++ ([(S_api_Last.mk a1.Client a1.Number a1.Errno a1.Version)] ++ y30.2.2.2.1.drop (Int.toNat y43.1)))))))))))))) (fun (J24 : Bool → Option (Int × S_api_Version × List S_api_Entry × List S_api_Last × List S_api_Item × Int)) => (bif a1.Errno == 0 then (bif !a1.Remove then (bif !y3.2 then J24 (decide (((a0_Items.length : Nat) : Int) ≥ 32)) else J24 false) else J24 false) else J24 false)))))) (fun (J12 : Bool → Option (Int × S_api_Version × List S_api_Entry × List S_api_Last × List S_api_Item × Int)) => (m_pglog_Head_2 F a0_Les a0_Tail a0_Log a0_Lasts a0_Items).bind (fun y6 => (m_pglog_Cmp F a1.Version y6).bind (fun y8 => (bif decide (y8 ≤ 0) then J12 true else (bif decide (a1.Client < 0) then J12 true else J12 (decide (a1.Number < 0))))))))

def m_pglog_Trim (F : Nat) (a0_Les : Int) (a0_Tail : S_api_Version) (a0_Log : List S_api_Entry) (a0_Lasts : List S_api_Last) (a0_Items : List S_api_Item) (a1 : Int) : Option (Int × S_api_Version × List S_api_Entry × List S_api_Last × List S_api_Item) :=
  (m_pglog_Copy_2 F a0_Les a0_Tail a0_Log a0_Lasts a0_Items).bind (fun y3 => grd (I64 (((y3.2.2.1.length : Nat) : Int) - (if 0 > a1 then 0 else a1))) ((bif decide ((((y3.2.2.1.length : Nat) : Int) - (if 0 > a1 then 0 else a1)) > 0) then grd (I64 ((((y3.2.2.1.length : Nat) : Int) - (if 0 > a1 then 0 else a1)) - 1)) (grd (Ix ((((y3.2.2.1.length : Nat) : Int) - (if 0 > a1 then 0 else a1)) - 1) y3.2.2.1.length) (grd (Bd (((y3.2.2.1.length : Nat) : Int) - (if 0 > a1 then 0 else a1)) y3.2.2.1.length) (grd (App ((y3.2.2.1.drop (Int.toNat (((y3.2.2.1.length : Nat) : Int) - (if 0 > a1 then 0 else a1)))).take (y3.2.2.1.length - (Int.toNat (((y3.2.2.1.length : Nat) : Int) - (if 0 > a1 then 0 else a1))))).length 64) (some (y3.1, ((y3.2.2.1.getD (Int.toNat ((((y3.2.2.1.length : Nat) : Int) - (if 0 > a1 then 0 else a1)) - 1)) dS_api_Entry).Version), ((y3.2.2.1.drop (Int.toNat (((y3.2.2.1.length : Nat) : Int) - (if 0 > a1 then 0 else a1)))).take (y3.2.2.1.length - (Int.toNat (((y3.2.2.1.length : Nat) : Int) - (if 0 > a1 then 0 else a1))))), y3.2.2.2.1, y3.2.2.2.2))))) else some (y3.1, y3.2.1, y3.2.2.1, y3.2.2.2.1, y3.2.2.2.2))))

def m_pglog_After (F : Nat) (a0_Les : Int) (a0_Tail : S_api_Version) (a0_Log : List S_api_Entry) (a0_Lasts : List S_api_Last) (a0_Items : List S_api_Item) (a1 : S_api_Version) : Option (List S_api_Entry × Bool) :=
  (m_pglog_Cmp F a1 a0_Tail).bind (fun y3 => (bif decide (y3 < 0) then some (([] : List S_api_Entry), false) else grd (Len a0_Log.length) (loopL (fun (nx69 : List S_api_Entry → Option (List S_api_Entry × Bool)) (v17_1 : Nat) (x48 : S_api_Entry) (l20000_1 : List S_api_Entry) => (m_pglog_Cmp F x48.Version a1).bind (fun y53 => (bif decide (y53 > 0) then grd (App (l20000_1.length + [x48].length) 64) (nx69 (l20000_1 ++ [x48])) else nx69 l20000_1))) (fun (v17_1 : Nat) (l20000_1 : List S_api_Entry) => some (l20000_1, true)) a0_Log 0 ([] : List S_api_Entry))))

def m_pglog_Find_3 (F : Nat) : Option (Unit) :=
  some ()

def m_pglog_Head_3 (F : Nat) : Option (Unit) :=
  some ()

def m_cmp_isNaN_int__2 (F : Nat) : Option (Unit) :=
  some ()

def m_cmp_isNaN_int__3 (F : Nat) : Option (Unit) :=
  some ()

def m_cmp_Compare_int__2 (F : Nat) : Option (Unit) :=
  (m_cmp_isNaN_int__2 F).bind (fun y3 => (m_cmp_isNaN_int__3 F).bind (fun y6 => some ()))

def m_pglog_Cmp_2 (F : Nat) : Option (Unit) :=
  (m_cmp_Compare_int__2 F).bind (fun y3 => some ())

def m_place_Good_2 (F : Nat) : Option (Unit) :=
  some ()

def m_pglog_Copy_3 (F : Nat) : Option (Unit) :=
  some ()

def m_slices_BinarySearchFunc___api_Last_api_Last_int__2 (F : Nat) : Option (Unit) :=
  some ()

def m_pglog_look_api_Last_int__2 (F : Nat) : Option (Unit) :=
  (m_slices_BinarySearchFunc___api_Last_api_Last_int__2 F).bind (fun y3 => some ())

def m_slices_Insert___api_Last_api_Last_ (F : Nat) : Option (Unit) :=
  some ()

def m_slices_BinarySearchFunc___api_Item_api_Item_string__2 (F : Nat) : Option (Unit) :=
  some ()

def m_pglog_look_api_Item_string__2 (F : Nat) : Option (Unit) :=
  (m_slices_BinarySearchFunc___api_Item_api_Item_string__2 F).bind (fun y3 => some ())

def m_slices_Insert___api_Item_api_Item_ (F : Nat) : Option (Unit) :=
  some ()

def m_pglog_Append_3 (F : Nat) : Option (Unit) :=
  (m_pglog_Find_3 F).bind (fun y3 => (m_pglog_Head_3 F).bind (fun y6 => (m_pglog_Cmp_2 F).bind (fun y8 => (m_place_Good_2 F).bind (fun y11 => (m_pglog_Copy_3 F).bind (fun y15 => (m_pglog_look_api_Last_int__2 F).bind (fun y27 => (m_slices_Insert___api_Last_api_Last_ F).bind (fun y32 => (m_pglog_look_api_Item_string__2 F).bind (fun y39 => (m_slices_Insert___api_Item_api_Item_ F).bind (fun y47 => some ())))))))))

def m_pglog_Find_4 (F : Nat) : Option (Unit) :=
  some ()

def m_pglog_Head_4 (F : Nat) : Option (Unit) :=
  some ()

def m_cmp_Compare_int__3 (F : Nat) : Option (Unit) :=
  (m_cmp_isNaN_int__2 F).bind (fun y3 => (m_cmp_isNaN_int__2 F).bind (fun y6 => some ()))

def m_cmp_isNaN_int__4 (F : Nat) : Option (Unit) :=
  some ()

def m_cmp_Compare_int__4 (F : Nat) : Option (Unit) :=
  (m_cmp_isNaN_int__4 F).bind (fun y3 => (m_cmp_isNaN_int__2 F).bind (fun y6 => some ()))

def m_pglog_Cmp_3 (F : Nat) : Option (Unit) :=
  (m_cmp_Compare_int__3 F).bind (fun y3 => (m_cmp_Compare_int__4 F).bind (fun y7 => some ()))

def m_pglog_Copy_4 (F : Nat) : Option (Unit) :=
  some ()

def m_pglog_lastClient_2 (F : Nat) : Option (Unit) :=
  some ()

def m_cmp_isNaN_int__5 (F : Nat) : Option (Unit) :=
  some ()

def m_cmp_Compare_int__5 (F : Nat) : Option (Unit) :=
  (m_cmp_isNaN_int__5 F).bind (fun y3 => (m_cmp_isNaN_int__5 F).bind (fun y6 => some ()))

def m_pglog_look_api_Last_int__1_2 (F : Nat) : Option (Unit) :=
  (m_pglog_lastClient_2 F).bind (fun y3 => (m_cmp_Compare_int__5 F).bind (fun y5 => some ()))

def m_slices_BinarySearchFunc___api_Last_api_Last_int__3 (F : Nat) : Option (Unit) :=
  (m_pglog_look_api_Last_int__1_2 F).bind (fun y7 => (m_pglog_look_api_Last_int__1_2 F).bind (fun y12 => some ()))

def m_pglog_look_api_Last_int__3 (F : Nat) : Option (Unit) :=
  (m_slices_BinarySearchFunc___api_Last_api_Last_int__3 F).bind (fun y3 => some ())

def m_pglog_itemName_2 (F : Nat) : Option (Unit) :=
  some ()

def m_cmp_isNaN_string__2 (F : Nat) : Option (Unit) :=
  some ()

def m_cmp_Compare_string__2 (F : Nat) : Option (Unit) :=
  (m_cmp_isNaN_string__2 F).bind (fun y3 => (m_cmp_isNaN_string__2 F).bind (fun y6 => some ()))

def m_pglog_look_api_Item_string__1_2 (F : Nat) : Option (Unit) :=
  (m_pglog_itemName_2 F).bind (fun y3 => (m_cmp_Compare_string__2 F).bind (fun y5 => some ()))

def m_slices_BinarySearchFunc___api_Item_api_Item_string__3 (F : Nat) : Option (Unit) :=
  (m_pglog_look_api_Item_string__1_2 F).bind (fun y7 => (m_pglog_look_api_Item_string__1_2 F).bind (fun y12 => some ()))

def m_pglog_look_api_Item_string__3 (F : Nat) : Option (Unit) :=
  (m_slices_BinarySearchFunc___api_Item_api_Item_string__3 F).bind (fun y3 => some ())

def m_slices_Delete___api_Item_api_Item__2 (F : Nat) : Option (Unit) :=
  some ()

def m_pglog_Append_4 (F : Nat) : Option (Unit) :=
  (m_pglog_Find_4 F).bind (fun y3 => (m_pglog_Head_4 F).bind (fun y6 => (m_pglog_Cmp_3 F).bind (fun y8 => (m_place_Good_2 F).bind (fun y11 => (m_pglog_Copy_4 F).bind (fun y15 => (m_pglog_look_api_Last_int__3 F).bind (fun y27 => (m_pglog_look_api_Item_string__3 F).bind (fun y33 => (m_slices_Delete___api_Item_api_Item__2 F).bind (fun y40 => some ()))))))))

def m_pglog_Seen_2 (F : Nat) : Option (Unit) :=
  some ()

def m_pglog_Head_5 (F : Nat) : Option (Unit) :=
  some ()

def m_pglog_below_2 (F : Nat) : Option (Unit) :=
  some ()

def m_pglog_below_3 (F : Nat) : Option (Unit) :=
  some ()

def m_pglog_below_4 (F : Nat) : Option (Unit) :=
  some ()

def m_pglog_rising_api_Item_string__2 (F : Nat) : Option (Unit) :=
  some ()

def m_pglog_rising_api_Last_int__2 (F : Nat) : Option (Unit) :=
  some ()

def m_cmp_Compare_int__6 (F : Nat) : Option (Unit) :=
  (m_cmp_isNaN_int__4 F).bind (fun y3 => (m_cmp_isNaN_int__4 F).bind (fun y6 => some ()))

def m_pglog_Cmp_4 (F : Nat) : Option (Unit) :=
  (m_cmp_Compare_int__3 F).bind (fun y3 => (m_cmp_Compare_int__6 F).bind (fun y7 => some ()))

def m_pglog_Check_2 (F : Nat) : Option (Unit) :=
  (m_pglog_below_2 F).bind (fun y3 => (m_pglog_below_3 F).bind (fun y10 => (m_pglog_Cmp_2 F).bind (fun y12 => (m_pglog_below_4 F).bind (fun y19 => (m_pglog_Cmp_3 F).bind (fun y21 => (m_pglog_rising_api_Item_string__2 F).bind (fun y27 => (m_pglog_rising_api_Last_int__2 F).bind (fun y29 => (m_pglog_below_4 F).bind (fun y37 => (m_pglog_Cmp_4 F).bind (fun y39 => some ())))))))))

def m_tholelaw13_lives (F : Nat) : Option (Unit) :=
  (m_pglog_Append_3 F).bind (fun y3 => (m_pglog_Append_4 F).bind (fun y13 => (m_pglog_Seen_2 F).bind (fun y23 => (m_pglog_Head_5 F).bind (fun y26 => (m_pglog_Check_2 F).bind (fun y28 => some ())))))

def m_tholelaw13_PglogGrows (F : Nat) (a0 : List S_tholelaw13_Put) (a1 : Int) : Option (Bool) :=
  grd (Len a0.length) (loopL (fun (nx211 : Int × Int × Int × List (ByteArray × Int) × List S_api_Entry × List S_api_Last × List S_api_Item → Option (Bool)) (v23_1 : Nat) (x141 : S_tholelaw13_Put) (s282 : Int × Int × Int × List (ByteArray × Int) × List S_api_Entry × List S_api_Last × List S_api_Item) => match s282 with | (c2_0_1, c2_1_1, c2_2_1, l3_1, l20000_1, l20001_1, l20002_1) => grd (I64 (Int.tdiv ((v23_1 : Nat) : Int) 3)) (grd (I64 (1 + (Int.tdiv ((v23_1 : Nat) : Int) 3))) ((m_pglog_Append_2 F c2_0_1 (S_api_Version.mk c2_1_1 c2_2_1) l20000_1 l20001_1 l20002_1 (S_api_Entry.mk (S_api_Version.mk (1 + (Int.tdiv ((v23_1 : Nat) : Int) 3)) ((v23_1 + 1 : Nat) : Int)) x141.Remove x141.Errno x141.Name x141.Client x141.Number) x141.Crc).bind (fun y149 => (bif y149.2.2.2.2.2 != 0 then jn (fun (v64_14 : Bool) => (bif v64_14 then some false else nx211 (c2_0_1, c2_1_1, c2_2_1, l3_1, l20000_1, l20001_1, l20002_1))) (fun (J162 : Bool → Option (Bool)) => (bif y149.2.2.2.2.2 != 22 then (bif y149.2.2.2.2.2 != 36 then J162 (y149.2.2.2.2.2 != 28) else J162 false) else J162 false)) else jn (fun (l3_16 : List (ByteArray × Int)) => jn (fun (v97_17 : Bool) => (bif v97_17 then some false else (m_pglog_Seen F y149.1 y149.2.1 y149.2.2.1 y149.2.2.2.1 y149.2.2.2.2.1 x141.Client x141.Number).bind (fun y193 => jn (fun (v122_18 : Bool) => (bif v122_18 then some false else nx211 (y149.1, y149.2.1.Epoch, y149.2.1.N, l3_16, y149.2.2.1, y149.2.2.2.1, y149.2.2.2.2.1))) (fun (J198 : Bool → Option (Bool)) => (bif y193.2 != 1 then J198 true else (bif y193.1.Errno != x141.Errno then J198 true else J198 (!(S_api_Version.beq y193.1.Version (S_api_Version.mk (1 + (Int.tdiv ((v23_1 : Nat) : Int) 3)) ((v23_1 + 1 : Nat) : Int)))))))))) (fun (J187 : Bool → Option (Bool)) => (m_pglog_Check F y149.1 y149.2.1 y149.2.2.1 y149.2.2.2.1 y149.2.2.2.2.1).bind (fun y181 => (bif y181 != 0 then J187 true else (m_pglog_Head_2 F y149.1 y149.2.1 y149.2.2.1 y149.2.2.2.1 y149.2.2.2.2.1).bind (fun y184 => (bif !(S_api_Version.beq y184 (S_api_Version.mk (1 + (Int.tdiv ((v23_1 : Nat) : Int) 3)) ((v23_1 + 1 : Nat) : Int))) then J187 true else J187 (((y149.2.2.2.2.1.length : Nat) : Int) != ((l3_16.length : Nat) : Int)))))))) (fun (J177 : List (ByteArray × Int) → Option (Bool)) => (bif x141.Errno == 0 then (bif !x141.Remove then J177 (kput (kdel l3_1 x141.Name) x141.Name x141.Crc) else J177 (kdel l3_1 x141.Name)) else J177 l3_1))))))) (fun (v23_1 : Nat) (s283 : Int × Int × Int × List (ByteArray × Int) × List S_api_Entry × List S_api_Last × List S_api_Item) => match s283 with | (c2_0_1, c2_1_1, c2_2_1, l3_1, l20000_1, l20001_1, l20002_1) => grd (Len l20002_1.length) (loopL (fun (nx251 : Unit → Option (Bool)) (v127_20 : Nat) (x241 : S_api_Item) (_ : Unit) => (bif (kget l3_1 x241.Name) != x241.Crc then some false else nx251 ())) (fun (v127_20 : Nat) (_ : Unit) => (m_pglog_Trim F c2_0_1 (S_api_Version.mk c2_1_1 c2_2_1) l20000_1 l20001_1 l20002_1 a1).bind (fun y259 => (m_pglog_Head_2 F y259.1 y259.2.1 y259.2.2.1 y259.2.2.2.1 y259.2.2.2.2).bind (fun y269 => (m_pglog_After F y259.1 y259.2.1 y259.2.2.1 y259.2.2.2.1 y259.2.2.2.2 y269).bind (fun y271 => (m_pglog_Check F y259.1 y259.2.1 y259.2.2.1 y259.2.2.2.1 y259.2.2.2.2).bind (fun y276 => (bif y276 == 0 then (m_pglog_Head_2 F y259.1 y259.2.1 y259.2.2.1 y259.2.2.2.1 y259.2.2.2.2).bind (fun y279 => (m_pglog_Head_2 F c2_0_1 (S_api_Version.mk c2_1_1 c2_2_1) l20000_1 l20001_1 l20002_1).bind (fun y281 => (bif S_api_Version.beq y279 y281 then (bif ((y259.2.2.2.2.length : Nat) : Int) == ((l20002_1.length : Nat) : Int) then (bif ((y259.2.2.2.1.length : Nat) : Int) == ((l20001_1.length : Nat) : Int) then (bif decide (a1 < 0) then (bif y271.2 then (bif ((y271.1.length : Nat) : Int) == 0 then (m_tholelaw13_lives F).bind (fun y289 => some true) else some false) else some false) else (bif decide (((y259.2.2.1.length : Nat) : Int) ≤ a1) then (bif y271.2 then (bif ((y271.1.length : Nat) : Int) == 0 then (m_tholelaw13_lives F).bind (fun y290 => some true) else some false) else some false) else some false)) else some false) else some false) else some false))) else some false)))))) l20002_1 0 ())) a0 0 (0, 0, 0, ([] : List (ByteArray × Int)), ([] : List S_api_Entry), ([] : List S_api_Last), ([] : List S_api_Item)))

end Go.Proofs.Ytmoaiokgbjkaaaa
