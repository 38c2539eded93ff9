/-
  CHAPTER 13: the models of its functions.
-/
import Derived.Test.YtmoaiokgbjkaaaaProg
import Derived.Test.YtmoaiokgbjkaaaaGxc
set_option linter.unusedVariables false
set_option linter.unusedSimpArgs false
set_option maxRecDepth 100000
namespace Go.Proofs.Ytmoaiokgbjkaaaa
open Go Go.RowKit Sx

structure S_api_Version where
  Epoch : Int
  N : Int
def S_api_Version.row (x : S_api_Version) : List Value := [.int .i64 x.Epoch, .int .i64 x.N]
def dS_api_Version : S_api_Version := S_api_Version.mk 0 0
def S_api_Version.beq (x y : S_api_Version) : Bool := (x.Epoch == y.Epoch) && ((x.N == y.N) && true)
theorem S_api_Version.beq_iff (x y : S_api_Version) : S_api_Version.beq x y = true ↔ x = y := by
  cases x; cases y; simp [S_api_Version.beq, str_beq]

structure S_api_Entry where
  Version : S_api_Version
  Remove : Bool
  Errno : Int
  Name : ByteArray
  Client : Int
  Number : Int
def S_api_Entry.row (x : S_api_Entry) : List Value := [.int .i64 x.Version.Epoch, .int .i64 x.Version.N, .bool x.Remove, .int .i64 x.Errno, .string x.Name, .int .i64 x.Client, .int .i64 x.Number]
def dS_api_Entry : S_api_Entry := S_api_Entry.mk dS_api_Version false 0 (ByteArray.mk #[]) 0 0
def S_api_Entry.beq (x y : S_api_Entry) : Bool := (S_api_Version.beq x.Version y.Version) && ((x.Remove == y.Remove) && ((x.Errno == y.Errno) && ((x.Name == y.Name) && ((x.Client == y.Client) && ((x.Number == y.Number) && true)))))
theorem S_api_Entry.beq_iff (x y : S_api_Entry) : S_api_Entry.beq x y = true ↔ x = y := by
  cases x; cases y; simp [S_api_Entry.beq, str_beq, S_api_Version.beq_iff]

structure S_api_Last where
  Client : Int
  Number : Int
  Errno : Int
  Version : S_api_Version
def S_api_Last.row (x : S_api_Last) : List Value := [.int .i64 x.Client, .int .i64 x.Number, .int .i64 x.Errno, .int .i64 x.Version.Epoch, .int .i64 x.Version.N]
def dS_api_Last : S_api_Last := S_api_Last.mk 0 0 0 dS_api_Version
def S_api_Last.beq (x y : S_api_Last) : Bool := (x.Client == y.Client) && ((x.Number == y.Number) && ((x.Errno == y.Errno) && ((S_api_Version.beq x.Version y.Version) && true)))
theorem S_api_Last.beq_iff (x y : S_api_Last) : S_api_Last.beq x y = true ↔ x = y := by
  cases x; cases y; simp [S_api_Last.beq, str_beq, S_api_Version.beq_iff]

structure S_api_Item where
  Name : ByteArray
  Version : S_api_Version
  Crc : Int
def S_api_Item.row (x : S_api_Item) : List Value := [.string x.Name, .int .i64 x.Version.Epoch, .int .i64 x.Version.N, .int .u32 x.Crc]
def dS_api_Item : S_api_Item := S_api_Item.mk (ByteArray.mk #[]) dS_api_Version 0
def S_api_Item.beq (x y : S_api_Item) : Bool := (x.Name == y.Name) && ((S_api_Version.beq x.Version y.Version) && ((x.Crc == y.Crc) && true))
theorem S_api_Item.beq_iff (x y : S_api_Item) : S_api_Item.beq x y = true ↔ x = y := by
  cases x; cases y; simp [S_api_Item.beq, str_beq, S_api_Version.beq_iff]

structure S_tholelaw13_Ask where
  Name : ByteArray
  Client : Int
  Number : Int
def S_tholelaw13_Ask.row (x : S_tholelaw13_Ask) : List Value := [.string x.Name, .int .i64 x.Client, .int .i64 x.Number]
def dS_tholelaw13_Ask : S_tholelaw13_Ask := S_tholelaw13_Ask.mk (ByteArray.mk #[]) 0 0
def S_tholelaw13_Ask.beq (x y : S_tholelaw13_Ask) : Bool := (x.Name == y.Name) && ((x.Client == y.Client) && ((x.Number == y.Number) && true))
theorem S_tholelaw13_Ask.beq_iff (x y : S_tholelaw13_Ask) : S_tholelaw13_Ask.beq x y = true ↔ x = y := by
  cases x; cases y; simp [S_tholelaw13_Ask.beq, str_beq]

structure S_api_Info where
  Les : Int
  Head : S_api_Version
  Tail : S_api_Version
  Born : Int
def S_api_Info.row (x : S_api_Info) : List Value := [.int .i64 x.Les, .int .i64 x.Head.Epoch, .int .i64 x.Head.N, .int .i64 x.Tail.Epoch, .int .i64 x.Tail.N, .int .i64 x.Born]
def dS_api_Info : S_api_Info := S_api_Info.mk 0 dS_api_Version dS_api_Version 0
def S_api_Info.beq (x y : S_api_Info) : Bool := (x.Les == y.Les) && ((S_api_Version.beq x.Head y.Head) && ((S_api_Version.beq x.Tail y.Tail) && ((x.Born == y.Born) && true)))
theorem S_api_Info.beq_iff (x y : S_api_Info) : S_api_Info.beq x y = true ↔ x = y := by
  cases x; cases y; simp [S_api_Info.beq, str_beq, S_api_Version.beq_iff, S_api_Version.beq_iff]

@[reducible] def r42 (o : Option Addr) (l : List S_api_Item) : Ent := .rd o 4 (List.map S_api_Item.row l)
@[reducible] def o42 (o : Option Addr) (c : Nat) (l : List S_api_Item) : Ent := .osl o c 42 4 (List.map S_api_Item.row l)
@[reducible] def r47 (o : Option Addr) (l : List S_api_Last) : Ent := .rd o 5 (List.map S_api_Last.row l)
@[reducible] def o47 (o : Option Addr) (c : Nat) (l : List S_api_Last) : Ent := .osl o c 47 5 (List.map S_api_Last.row l)
@[reducible] def r52 (o : Option Addr) (l : List S_api_Entry) : Ent := .rd o 7 (List.map S_api_Entry.row l)
@[reducible] def o52 (o : Option Addr) (c : Nat) (l : List S_api_Entry) : Ent := .osl o c 52 7 (List.map S_api_Entry.row l)

def m_cmp_isNaN_int_ (F : Nat) (a0 : Int) : Option (Bool) :=
  some (a0 != a0)

def m_cmp_Compare_int_ (F : Nat) (a0 : Int) (a1 : Int) : Option (Int) :=
  (m_cmp_isNaN_int_ F a0).bind (fun y3 => (m_cmp_isNaN_int_ F a1).bind (fun y6 => (bif y3 then (bif y6 then some 0 else some (-1)) else (bif y6 then some 1 else (bif decide (a0 < a1) then some (-1) else (bif decide (a0 > a1) then some 1 else some 0))))))

def m_pglog_Cmp (F : Nat) (a0 : S_api_Version) (a1 : S_api_Version) : Option (Int) :=
  (m_cmp_Compare_int_ F a0.Epoch a1.Epoch).bind (fun y3 => (bif y3 != 0 then some y3 else (m_cmp_Compare_int_ F a0.N a1.N).bind (fun y9 => some y9)))

def m_tholeref13_Cmp (F : Nat) (a0 : S_api_Version) (a1 : S_api_Version) : Option (Int) :=
  jn (fun (v5_1 : Bool) => (bif v5_1 then some (-1) else (bif S_api_Version.beq a0 a1 then some 0 else some 1))) (fun (J9 : Bool → Option (Int)) => (bif decide (a0.Epoch < a1.Epoch) then J9 (decide (a0.Epoch < a1.Epoch)) else (bif a0.Epoch == a1.Epoch then J9 (decide (a0.N < a1.N)) else J9 false)))

def m_slices_Equal___api_Entry_api_Entry_ (F : Nat) (a0 : List S_api_Entry) (a1 : List S_api_Entry) : Option (Bool) :=
  (bif ((a0.length : Nat) : Int) != ((a1.length : Nat) : Int) then some false else grd (Len a0.length) (loopL (fun (nx38 : Unit → Option (Bool)) (v13_1 : Nat) (x27 : S_api_Entry) (_ : Unit) => grd (v13_1 < a1.length) ((bif !(S_api_Entry.beq x27 (a1.getD v13_1 dS_api_Entry)) then some false else nx38 ()))) (fun (v13_1 : Nat) (_ : Unit) => some true) a0 0 ()))

def m_slices_Equal___api_Last_api_Last_ (F : Nat) (a0 : List S_api_Last) (a1 : List S_api_Last) : Option (Bool) :=
  (bif ((a0.length : Nat) : Int) != ((a1.length : Nat) : Int) then some false else grd (Len a0.length) (loopL (fun (nx38 : Unit → Option (Bool)) (v13_1 : Nat) (x27 : S_api_Last) (_ : Unit) => grd (v13_1 < a1.length) ((bif !(S_api_Last.beq x27 (a1.getD v13_1 dS_api_Last)) then some false else nx38 ()))) (fun (v13_1 : Nat) (_ : Unit) => some true) a0 0 ()))

def m_slices_Equal___api_Item_api_Item_ (F : Nat) (a0 : List S_api_Item) (a1 : List S_api_Item) : Option (Bool) :=
  (bif ((a0.length : Nat) : Int) != ((a1.length : Nat) : Int) then some false else grd (Len a0.length) (loopL (fun (nx38 : Unit → Option (Bool)) (v13_1 : Nat) (x27 : S_api_Item) (_ : Unit) => grd (v13_1 < a1.length) ((bif !(S_api_Item.beq x27 (a1.getD v13_1 dS_api_Item)) then some false else nx38 ()))) (fun (v13_1 : Nat) (_ : Unit) => some true) a0 0 ()))

def m_pglog_Same (F : Nat) (a0_Les : Int) (a0_Tail : S_api_Version) (a0_Log : List S_api_Entry) (a0_Lasts : List S_api_Last) (a0_Items : List S_api_Item) (a1_Les : Int) (a1_Tail : S_api_Version) (a1_Log : List S_api_Entry) (a1_Lasts : List S_api_Last) (a1_Items : List S_api_Item) : Option (Bool) :=
  (bif a0_Les == a1_Les then (bif S_api_Version.beq a0_Tail a1_Tail then (m_slices_Equal___api_Entry_api_Entry_ F a0_Log a1_Log).bind (fun y5 => (bif y5 then (m_slices_Equal___api_Last_api_Last_ F a0_Lasts a1_Lasts).bind (fun y8 => (bif y8 then (m_slices_Equal___api_Item_api_Item_ F a0_Items a1_Items).bind (fun y11 => some y11) else some false)) else some false)) else some false) else some false)

def m_tholeref13_Same (F : Nat) (a0_Les : Int) (a0_Tail : S_api_Version) (a0_Log : List S_api_Entry) (a0_Lasts : List S_api_Last) (a0_Items : List S_api_Item) (a1_Les : Int) (a1_Tail : S_api_Version) (a1_Log : List S_api_Entry) (a1_Lasts : List S_api_Last) (a1_Items : List S_api_Item) : Option (Bool) :=
  jn (fun (v46_0 : Bool) => (bif v46_0 then some false else grd (Len a0_Log.length) (loopL (fun (nx45 : Unit → Option (Bool)) (v50_1 : Nat) (x34 : S_api_Entry) (_ : Unit) => grd (v50_1 < a1_Log.length) ((bif !(S_api_Entry.beq x34 (a1_Log.getD v50_1 dS_api_Entry)) then some false else nx45 ()))) (fun (v50_1 : Nat) (_ : Unit) => grd (Len a0_Lasts.length) (loopL (fun (nx85 : Unit → Option (Bool)) (v68_1 : Nat) (x74 : S_api_Last) (_ : Unit) => grd (v68_1 < a1_Lasts.length) ((bif !(S_api_Last.beq x74 (a1_Lasts.getD v68_1 dS_api_Last)) then some false else nx85 ()))) (fun (v68_1 : Nat) (_ : Unit) => grd (Len a0_Items.length) (loopL (fun (nx125 : Unit → Option (Bool)) (v86_1 : Nat) (x114 : S_api_Item) (_ : Unit) => grd (v86_1 < a1_Items.length) ((bif !(S_api_Item.beq x114 (a1_Items.getD v86_1 dS_api_Item)) then some false else nx125 ()))) (fun (v86_1 : Nat) (_ : Unit) => some true) a0_Items 0 ())) a0_Lasts 0 ())) a0_Log 0 ()))) (fun (J7 : Bool → Option (Bool)) => (bif a0_Les != a1_Les then J7 true else (bif !(S_api_Version.beq a0_Tail a1_Tail) then J7 true else (bif ((a0_Log.length : Nat) : Int) != ((a1_Log.length : Nat) : Int) then J7 true else (bif ((a0_Lasts.length : Nat) : Int) != ((a1_Lasts.length : Nat) : Int) then J7 true else J7 (((a0_Items.length : Nat) : Int) != ((a1_Items.length : Nat) : Int)))))))

def m_pglog_Find (F : Nat) (a0_Les : Int) (a0_Tail : S_api_Version) (a0_Log : List S_api_Entry) (a0_Lasts : List S_api_Last) (a0_Items : List S_api_Item) (a1 : ByteArray) : Option (S_api_Item × Bool) :=
  grd (Len a0_Items.length) (loopL (fun (nx32 : Unit → Option (S_api_Item × Bool)) (v11_1 : Nat) (x22 : S_api_Item) (_ : Unit) => (bif x22.Name.toList == a1.toList then some (x22, true) else nx32 ())) (fun (v11_1 : Nat) (_ : Unit) => some ((S_api_Item.mk (ByteArray.mk #[]) (S_api_Version.mk 0 0) 0), false)) a0_Items 0 ())

def m_pglog_Head (F : Nat) (a0_Les : Int) (a0_Tail : S_api_Version) (a0_Log : List S_api_Entry) (a0_Lasts : List S_api_Last) (a0_Items : List S_api_Item) : Option (S_api_Version) :=
  (bif decide (((a0_Log.length : Nat) : Int) > 0) then grd (I64 (((a0_Log.length : Nat) : Int) - 1)) (grd (Ix (((a0_Log.length : Nat) : Int) - 1) a0_Log.length) (some ((a0_Log.getD (Int.toNat (((a0_Log.length : Nat) : Int) - 1)) dS_api_Entry).Version))) else some a0_Tail)

def m_place_Good (F : Nat) (a0 : ByteArray) : Option (Bool) :=
  grd (((a0.size : Nat) : Int) ≤ 9223372036854775807) (loopC (fun (nx50 : Unit → Option (Bool)) (v7_1 : Nat) (_ : Unit) => grd (v7_1 < a0.size) (jn (fun (v13_4 : Bool) => (bif v13_4 then some false else nx50 ())) (fun (J42 : Bool → Option (Bool)) => (bif decide ((((a0.data.getD v7_1 0).toNat : Nat) : Int) < 33) then J42 (decide ((((a0.data.getD v7_1 0).toNat : Nat) : Int) < 33)) else J42 (decide ((((a0.data.getD v7_1 0).toNat : Nat) : Int) > 126)))))) (fun (v7_1 : Nat) (_ : Unit) => (bif !(a0.toList == (ByteArray.mk #[]).toList) then some (decide (((a0.size : Nat) : Int) ≤ 64)) else some false)) (Int.toNat (((a0.size : Nat) : Int) - ((0 : Nat) : Int))) 0 ())

def m_pglog_Copy (F : Nat) (a0_Les : Int) (a0_Tail : S_api_Version) (a0_Log : List S_api_Entry) (a0_Lasts : List S_api_Last) (a0_Items : List S_api_Item) : Option (Int × S_api_Version × List S_api_Entry × List S_api_Last × List S_api_Item) :=
  grd (App a0_Log.length 64) (grd (App a0_Lasts.length 40) (grd (App a0_Items.length 40) (some (a0_Les, a0_Tail, a0_Log, a0_Lasts, a0_Items))))

def m_pglog_lastClient (F : Nat) (a0 : S_api_Last) : Option (Int) :=
  some a0.Client

def m_pglog_look_api_Last_int__1 (F : Nat) (a0 : S_api_Last) (a1 : Int) : Option (Int) :=
  (m_pglog_lastClient F a0).bind (fun y3 => (m_cmp_Compare_int_ F y3 a1).bind (fun y5 => some y5))

def m_slices_BinarySearchFunc___api_Last_api_Last_int_ (F : Nat) (a0 : List S_api_Last) (a1 : Int) : Option (Int × Bool) :=
  loopW (fun (nx59 : Int × Int → Option (Int × Bool)) (s71 : Int × Int) => match s71 with | (v9_1, v10_1) => (bif decide (v9_1 < v10_1) then grd (I64 (v9_1 + v10_1)) (grd (Ix (IntKind.i64.wrap (Int.fdiv (IntKind.u64.wrap (v9_1 + v10_1)) (2 ^ 1))) a0.length) ((m_pglog_look_api_Last_int__1 F (a0.getD (Int.toNat (IntKind.i64.wrap (Int.fdiv (IntKind.u64.wrap (v9_1 + v10_1)) (2 ^ 1)))) dS_api_Last) a1).bind (fun y47 => (bif decide (y47 < 0) then grd (I64 ((IntKind.i64.wrap (Int.fdiv (IntKind.u64.wrap (v9_1 + v10_1)) (2 ^ 1))) + 1)) (nx59 (((IntKind.i64.wrap (Int.fdiv (IntKind.u64.wrap (v9_1 + v10_1)) (2 ^ 1))) + 1), v10_1)) else nx59 (v9_1, (IntKind.i64.wrap (Int.fdiv (IntKind.u64.wrap (v9_1 + v10_1)) (2 ^ 1)))))))) else (bif decide (v9_1 < ((a0.length : Nat) : Int)) then grd (Ix v9_1 a0.length) ((m_pglog_look_api_Last_int__1 F (a0.getD (Int.toNat v9_1) dS_api_Last) a1).bind (fun y69 => some (v9_1, (y69 == 0)))) else some (v9_1, false)))) F (0, ((a0.length : Nat) : Int))

def m_pglog_look_api_Last_int_ (F : Nat) (a0 : List S_api_Last) (a2 : Int) : Option (Int × Bool) :=
  (m_slices_BinarySearchFunc___api_Last_api_Last_int_ F a0 a2).bind (fun y3 => some (y3.1, y3.2))

def m_slices_Insert___api_Last_api_Last_ (F : Nat) (a0 : List S_api_Last) (a1 : Int) (a2 : List S_api_Last) : Option (List S_api_Last) :=
  grd (Bd a1 a0.length) ((bif ((a2.length : Nat) : Int) == 0 then some a0 else (bif a1 == ((a0.length : Nat) : Int) then grd (App (a0.length + a2.length) 40) (some (a0 ++ a2)) else none)))

def m_pglog_itemName (F : Nat) (a0 : S_api_Item) : Option (ByteArray) :=
  some a0.Name

def m_cmp_isNaN_string_ (F : Nat) (a0 : ByteArray) : Option (Bool) :=
  some (!(a0.toList == a0.toList))

def m_cmp_Compare_string_ (F : Nat) (a0 : ByteArray) (a1 : ByteArray) : Option (Int) :=
  (m_cmp_isNaN_string_ F a0).bind (fun y3 => (m_cmp_isNaN_string_ F a1).bind (fun y6 => (bif y3 then (bif y6 then some 0 else some (-1)) else (bif y6 then some 1 else (bif Op.bytesLess a0.toList a1.toList then some (-1) else (bif !(Op.bytesLess a0.toList a1.toList || a0.toList == a1.toList) then some 1 else some 0))))))

def m_pglog_look_api_Item_string__1 (F : Nat) (a0 : S_api_Item) (a1 : ByteArray) : Option (Int) :=
  (m_pglog_itemName F a0).bind (fun y3 => (m_cmp_Compare_string_ F y3 a1).bind (fun y5 => some y5))

def m_slices_BinarySearchFunc___api_Item_api_Item_string_ (F : Nat) (a0 : List S_api_Item) (a1 : ByteArray) : Option (Int × Bool) :=
  loopW (fun (nx59 : Int × Int → Option (Int × Bool)) (s71 : Int × Int) => match s71 with | (v9_1, v10_1) => (bif decide (v9_1 < v10_1) then grd (I64 (v9_1 + v10_1)) (grd (Ix (IntKind.i64.wrap (Int.fdiv (IntKind.u64.wrap (v9_1 + v10_1)) (2 ^ 1))) a0.length) ((m_pglog_look_api_Item_string__1 F (a0.getD (Int.toNat (IntKind.i64.wrap (Int.fdiv (IntKind.u64.wrap (v9_1 + v10_1)) (2 ^ 1)))) dS_api_Item) a1).bind (fun y47 => (bif decide (y47 < 0) then grd (I64 ((IntKind.i64.wrap (Int.fdiv (IntKind.u64.wrap (v9_1 + v10_1)) (2 ^ 1))) + 1)) (nx59 (((IntKind.i64.wrap (Int.fdiv (IntKind.u64.wrap (v9_1 + v10_1)) (2 ^ 1))) + 1), v10_1)) else nx59 (v9_1, (IntKind.i64.wrap (Int.fdiv (IntKind.u64.wrap (v9_1 + v10_1)) (2 ^ 1)))))))) else (bif decide (v9_1 < ((a0.length : Nat) : Int)) then grd (Ix v9_1 a0.length) ((m_pglog_look_api_Item_string__1 F (a0.getD (Int.toNat v9_1) dS_api_Item) a1).bind (fun y69 => some (v9_1, (y69 == 0)))) else some (v9_1, false)))) F (0, ((a0.length : Nat) : Int))

def m_pglog_look_api_Item_string_ (F : Nat) (a0 : List S_api_Item) (a2 : ByteArray) : Option (Int × Bool) :=
  (m_slices_BinarySearchFunc___api_Item_api_Item_string_ F a0 a2).bind (fun y3 => some (y3.1, y3.2))

def m_slices_Delete___api_Item_api_Item_ (F : Nat) (a0 : List S_api_Item) (a1 : Int) (a2 : Int) : Option (List S_api_Item) :=
  grd (Bd a2 a0.length) (grd (Bd a1 (Int.toNat a2)) ((bif a1 == a2 then some a0 else grd (Bd a1 a0.length) (grd (App ((Int.toNat a1) + (a0.length - (Int.toNat a2))) 40) (grd ((Int.toNat a1) ≤ (Int.toNat a2)) (grd ((a0.take (Int.toNat a1) ++ a0.drop (Int.toNat a2)).length ≤ a0.length) (some (a0.take (Int.toNat a1) ++ a0.drop (Int.toNat a2)))))))))

def m_slices_Insert___api_Item_api_Item_ (F : Nat) (a0 : List S_api_Item) (a1 : Int) (a2 : List S_api_Item) : Option (List S_api_Item) :=
  grd (Bd a1 a0.length) ((bif ((a2.length : Nat) : Int) == 0 then some a0 else (bif a1 == ((a0.length : Nat) : Int) then grd (App (a0.length + a2.length) 40) (some (a0 ++ a2)) else none)))

def m_pglog_Append (F : Nat) (a0_Les : Int) (a0_Tail : S_api_Version) (a0_Log : List S_api_Entry) (a0_Lasts : List S_api_Last) (a0_Items : List S_api_Item) (a1 : S_api_Entry) (a2 : Int) : Option (Int × S_api_Version × List S_api_Entry × List S_api_Last × List S_api_Item × Int) :=
  (m_pglog_Find F a0_Les a0_Tail a0_Log a0_Lasts a0_Items a1.Name).bind (fun y3 => jn (fun (v23_1 : Bool) => (bif v23_1 then some (0, (S_api_Version.mk 0 0), ([] : List S_api_Entry), ([] : List S_api_Last), ([] : List S_api_Item), 22) else (m_place_Good F a1.Name).bind (fun y18 => (bif !y18 then some (0, (S_api_Version.mk 0 0), ([] : List S_api_Entry), ([] : List S_api_Last), ([] : List S_api_Item), 36) else jn (fun (v47_3 : Bool) => (bif v47_3 then some (0, (S_api_Version.mk 0 0), ([] : List S_api_Entry), ([] : List S_api_Last), ([] : List S_api_Item), 28) else (m_pglog_Copy F a0_Les a0_Tail a0_Log a0_Lasts a0_Items).bind (fun y30 => grd (App (y30.2.2.1.length + [a1].length) 64) ((m_pglog_look_api_Last_int_ F y30.2.2.2.1 a1.Client).bind (fun y43 => jn (fun (l9_0 : List S_api_Last) => (bif a1.Errno != 0 then some (y30.1, (S_api_Version.mk y30.2.1.Epoch y30.2.1.N), (y30.2.2.1 ++ [a1]), l9_0, y30.2.2.2.2, 0) else (m_pglog_look_api_Item_string_ F y30.2.2.2.2 a1.Name).bind (fun y63 => jn (fun (v130_1 : Bool) => (bif v130_1 then grd (I64 (y63.1 + 1)) ((m_slices_Delete___api_Item_api_Item_ F y30.2.2.2.2 y63.1 (y63.1 + 1)).bind (fun y74 => some (y30.1, (S_api_Version.mk y30.2.1.Epoch y30.2.1.N), (y30.2.2.1 ++ [a1]), l9_0, y74, 0))) else (bif a1.Remove then some (y30.1, (S_api_Version.mk y30.2.1.Epoch y30.2.1.N), (y30.2.2.1 ++ [a1]), l9_0, y30.2.2.2.2, 0) else (bif y63.2 then grd (Ix y63.1 y30.2.2.2.2.length) (some (y30.1, (S_api_Version.mk y30.2.1.Epoch y30.2.1.N), (y30.2.2.1 ++ [a1]), l9_0, (y30.2.2.2.2.set (Int.toNat y63.1) (S_api_Item.mk a1.Name (S_api_Version.mk a1.Version.Epoch a1.Version.N) a2)), 0)) else (m_slices_Insert___api_Item_api_Item_ F y30.2.2.2.2 y63.1 [(S_api_Item.mk a1.Name (S_api_Version.mk a1.Version.Epoch a1.Version.N) a2)]).bind (fun y87 => some (y30.1, (S_api_Version.mk y30.2.1.Epoch y30.2.1.N), (y30.2.2.1 ++ [a1]), l9_0, y87, 0)))))) (fun (J68 : Bool → Option (Int × S_api_Version × List S_api_Entry × List S_api_Last × List S_api_Item × Int)) => (bif a1.Remove then J68 y63.2 else J68 false))))) (fun (J56 : List S_api_Last → Option (Int × S_api_Version × List S_api_Entry × List S_api_Last × List S_api_Item × Int)) => (bif y43.2 then grd (Ix y43.1 y30.2.2.2.1.length) (J56 (y30.2.2.2.1.set (Int.toNat y43.1) (S_api_Last.mk a1.Client a1.Number a1.Errno a1.Version))) else (m_slices_Insert___api_Last_api_Last_ F y30.2.2.2.1 y43.1 [(S_api_Last.mk a1.Client a1.Number a1.Errno a1.Version)]).bind (fun y50 => J56 y50)))))))) (fun (J24 : Bool → Option (Int × S_api_Version × List S_api_Entry × List S_api_Last × List S_api_Item × Int)) => (bif a1.Errno == 0 then (bif !a1.Remove then (bif !y3.2 then J24 (decide (((a0_Items.length : Nat) : Int) ≥ 32)) else J24 false) else J24 false) else J24 false)))))) (fun (J12 : Bool → Option (Int × S_api_Version × List S_api_Entry × List S_api_Last × List S_api_Item × Int)) => (m_pglog_Head F a0_Les a0_Tail a0_Log a0_Lasts a0_Items).bind (fun y6 => (m_pglog_Cmp F a1.Version y6).bind (fun y8 => (bif decide (y8 ≤ 0) then J12 true else (bif decide (a1.Client < 0) then J12 true else J12 (decide (a1.Number < 0))))))))

def m_pglog_Seen (F : Nat) (a0_Les : Int) (a0_Tail : S_api_Version) (a0_Log : List S_api_Entry) (a0_Lasts : List S_api_Last) (a0_Items : List S_api_Item) (a1 : Int) (a2 : Int) : Option (S_api_Last × Int) :=
  grd (Len a0_Lasts.length) (loopL (fun (nx50 : Unit → Option (S_api_Last × Int)) (v13_1 : Nat) (x34 : S_api_Last) (_ : Unit) => (bif x34.Client != a1 then nx50 () else (bif a2 == x34.Number then some (x34, 1) else (bif decide (a2 < x34.Number) then some (x34, 2) else some ((S_api_Last.mk 0 0 0 (S_api_Version.mk 0 0)), 0))))) (fun (v13_1 : Nat) (_ : Unit) => some ((S_api_Last.mk 0 0 0 (S_api_Version.mk 0 0)), 0)) a0_Lasts 0 ())

def m_pglog_below (F : Nat) (a0 : S_api_Version) : Option (Bool) :=
  (bif decide (a0.Epoch < 0) then some true else some (decide (a0.N < 0)))

def m_pglog_rising_api_Item_string_ (F : Nat) (a0 : List S_api_Item) : Option (Bool) :=
  grd (Len a0.length) (loopL (fun (nx46 : Unit → Option (Bool)) (v5_1 : Nat) (x31 : S_api_Item) (_ : Unit) => grd (I64 (((v5_1 : Nat) : Int) - 1)) (grd (Ix (((v5_1 : Nat) : Int) - 1) a0.length) ((m_pglog_itemName F (a0.getD (Int.toNat (((v5_1 : Nat) : Int) - 1)) dS_api_Item)).bind (fun y37 => (m_pglog_itemName F x31).bind (fun y39 => (bif !(Op.bytesLess y37.toList y39.toList) then some false else nx46 ())))))) (fun (v5_1 : Nat) (_ : Unit) => some true) (a0.drop 1) 1 ())

def m_pglog_rising_api_Last_int_ (F : Nat) (a0 : List S_api_Last) : Option (Bool) :=
  grd (Len a0.length) (loopL (fun (nx46 : Unit → Option (Bool)) (v5_1 : Nat) (x31 : S_api_Last) (_ : Unit) => grd (I64 (((v5_1 : Nat) : Int) - 1)) (grd (Ix (((v5_1 : Nat) : Int) - 1) a0.length) ((m_pglog_lastClient F (a0.getD (Int.toNat (((v5_1 : Nat) : Int) - 1)) dS_api_Last)).bind (fun y37 => (m_pglog_lastClient F x31).bind (fun y39 => (bif decide (y37 ≥ y39) then some false else nx46 ())))))) (fun (v5_1 : Nat) (_ : Unit) => some true) (a0.drop 1) 1 ())

def m_pglog_Check (F : Nat) (a0_Les : Int) (a0_Tail : S_api_Version) (a0_Log : List S_api_Entry) (a0_Lasts : List S_api_Last) (a0_Items : List S_api_Item) : Option (Int) :=
  jn (fun (v23_0 : Bool) => (bif v23_0 then some 22 else grd (Len a0_Log.length) (loopL (fun (nx70 : Int × Int → Option (Int)) (v29_1 : Nat) (x51 : S_api_Entry) (s223 : Int × Int) => match s223 with | (c5_0_1, c5_1_1) => jn (fun (v42_3 : Bool) => (bif v42_3 then some 22 else nx70 (x51.Version.Epoch, x51.Version.N))) (fun (J61 : Bool → Option (Int)) => (m_pglog_below F x51.Version).bind (fun y56 => (bif y56 then J61 true else (m_pglog_Cmp F x51.Version (S_api_Version.mk c5_0_1 c5_1_1)).bind (fun y59 => J61 (decide (y59 ≤ 0))))))) (fun (v29_1 : Nat) (s224 : Int × Int) => match s224 with | (c5_0_1, c5_1_1) => jn (fun (v55_0 : Bool) => (bif v55_0 then some 22 else grd (Len a0_Items.length) (loopL (fun (nx154 : Unit → Option (Int)) (v59_1 : Nat) (x132 : S_api_Item) (_ : Unit) => jn (fun (v84_3 : Bool) => (bif v84_3 then some 22 else nx154 ())) (fun (J146 : Bool → Option (Int)) => (m_place_Good F x132.Name).bind (fun y137 => (bif !y137 then J146 true else (m_pglog_below F x132.Version).bind (fun y140 => (bif y140 then J146 true else (bif S_api_Version.beq x132.Version (S_api_Version.mk 0 0) then J146 true else (m_pglog_Cmp F x132.Version (S_api_Version.mk c5_0_1 c5_1_1)).bind (fun y144 => J146 (decide (y144 > 0)))))))))) (fun (v59_1 : Nat) (_ : Unit) => grd (Len a0_Lasts.length) (loopL (fun (nx215 : Unit → Option (Int)) (v89_1 : Nat) (x197 : S_api_Last) (_ : Unit) => jn (fun (v102_3 : Bool) => (bif v102_3 then some 22 else nx215 ())) (fun (J207 : Bool → Option (Int)) => (m_pglog_below F x197.Version).bind (fun y202 => (bif y202 then J207 true else (m_pglog_Cmp F x197.Version (S_api_Version.mk c5_0_1 c5_1_1)).bind (fun y205 => J207 (decide (y205 > 0))))))) (fun (v89_1 : Nat) (_ : Unit) => some 0) a0_Lasts 0 ())) a0_Items 0 ()))) (fun (J83 : Bool → Option (Int)) => (m_pglog_rising_api_Item_string_ F a0_Items).bind (fun y78 => (bif !y78 then J83 true else (m_pglog_rising_api_Last_int_ F a0_Lasts).bind (fun y81 => J83 (!y81)))))) a0_Log 0 (a0_Tail.Epoch, a0_Tail.N)))) (fun (J7 : Bool → Option (Int)) => (bif decide (a0_Les < 0) then J7 true else (m_pglog_below F a0_Tail).bind (fun y4 => (bif y4 then J7 true else J7 (decide (((a0_Items.length : Nat) : Int) > 32))))))

def m_tholelaw13_lives (F : Nat) : Option (Bool) :=
  (m_pglog_Append F 0 (S_api_Version.mk 0 0) ([] : List S_api_Entry) ([] : List S_api_Last) ([] : List S_api_Item) (S_api_Entry.mk (S_api_Version.mk 1 1) false 0 (ByteArray.mk #[102]) 3 1) 7).bind (fun y3 => (m_pglog_Append F y3.1 y3.2.1 y3.2.2.1 y3.2.2.2.1 y3.2.2.2.2.1 (S_api_Entry.mk (S_api_Version.mk 1 2) true 0 (ByteArray.mk #[102]) 3 2) 0).bind (fun y13 => (m_pglog_Seen F y13.1 y13.2.1 y13.2.2.1 y13.2.2.2.1 y13.2.2.2.2.1 3 2).bind (fun y23 => (bif y3.2.2.2.2.2 == 0 then (bif y13.2.2.2.2.2 == 0 then (bif ((y3.2.2.2.2.1.length : Nat) : Int) == 1 then (bif ((y13.2.2.2.2.1.length : Nat) : Int) == 0 then (m_pglog_Head F y13.1 y13.2.1 y13.2.2.1 y13.2.2.2.1 y13.2.2.2.2.1).bind (fun y30 => (bif S_api_Version.beq y30 (S_api_Version.mk 1 2) then (bif y23.2 == 1 then (m_pglog_Check F y13.1 y13.2.1 y13.2.2.1 y13.2.2.2.1 y13.2.2.2.2.1).bind (fun y34 => some (y34 == 0)) else some false) else some false)) else some false) else some false) else some false) else some false))))

def m_tholelaw13_PglogCompares (F : Nat) (a0 : S_api_Version) (a1 : S_api_Version) (a2_0_Les : Int) (a2_0_Tail : S_api_Version) (a2_0_Log : List S_api_Entry) (a2_0_Lasts : List S_api_Last) (a2_0_Items : List S_api_Item) (a2_1_Les : Int) (a2_1_Tail : S_api_Version) (a2_1_Log : List S_api_Entry) (a2_1_Lasts : List S_api_Last) (a2_1_Items : List S_api_Item) : Option (Bool) :=
  (m_pglog_Cmp F a0 a1).bind (fun y3 => (m_tholeref13_Cmp F a0 a1).bind (fun y5 => (bif y3 == y5 then (m_pglog_Same F a2_0_Les a2_0_Tail a2_0_Log a2_0_Lasts a2_0_Items a2_1_Les a2_1_Tail a2_1_Log a2_1_Lasts a2_1_Items).bind (fun y8 => (m_tholeref13_Same F a2_0_Les a2_0_Tail a2_0_Log a2_0_Lasts a2_0_Items a2_1_Les a2_1_Tail a2_1_Log a2_1_Lasts a2_1_Items).bind (fun y10 => (bif y8 == y10 then (m_pglog_Same F a2_0_Les a2_0_Tail a2_0_Log a2_0_Lasts a2_0_Items a2_0_Les a2_0_Tail a2_0_Log a2_0_Lasts a2_0_Items).bind (fun y13 => (bif y13 then (m_tholelaw13_lives F).bind (fun y16 => some y16) else some false)) else some false))) else some false)))

def m_tholeref13_Copy (F : Nat) (a0_Les : Int) (a0_Tail : S_api_Version) (a0_Log : List S_api_Entry) (a0_Lasts : List S_api_Last) (a0_Items : List S_api_Item) : Option (Int × S_api_Version × List S_api_Entry × List S_api_Last × List S_api_Item) :=
  grd (App (([] : List S_api_Entry).length + a0_Log.length) 64) (grd (App (([] : List S_api_Last).length + a0_Lasts.length) 40) (grd (App (([] : List S_api_Item).length + a0_Items.length) 40) (some (a0_Les, a0_Tail, (([] : List S_api_Entry) ++ a0_Log), (([] : List S_api_Last) ++ a0_Lasts), (([] : List S_api_Item) ++ a0_Items)))))

def m_pglog_After (F : Nat) (a0_Les : Int) (a0_Tail : S_api_Version) (a0_Log : List S_api_Entry) (a0_Lasts : List S_api_Last) (a0_Items : List S_api_Item) (a1 : S_api_Version) : Option (List S_api_Entry × Bool) :=
  (m_pglog_Cmp F a1 a0_Tail).bind (fun y3 => (bif decide (y3 < 0) then some (([] : List S_api_Entry), false) else grd (Len a0_Log.length) (loopL (fun (nx69 : List S_api_Entry → Option (List S_api_Entry × Bool)) (v17_1 : Nat) (x48 : S_api_Entry) (l20001_1 : List S_api_Entry) => (m_pglog_Cmp F x48.Version a1).bind (fun y53 => (bif decide (y53 > 0) then grd (App (l20001_1.length + [x48].length) 64) (nx69 (l20001_1 ++ [x48])) else nx69 l20001_1))) (fun (v17_1 : Nat) (l20001_1 : List S_api_Entry) => some (l20001_1, true)) a0_Log 0 ([] : List S_api_Entry))))

def m_tholeref13_After (F : Nat) (a0_Les : Int) (a0_Tail : S_api_Version) (a0_Log : List S_api_Entry) (a0_Lasts : List S_api_Last) (a0_Items : List S_api_Item) (a1 : S_api_Version) : Option (List S_api_Entry × Bool) :=
  (m_tholeref13_Cmp F a1 a0_Tail).bind (fun y3 => (bif decide (y3 < 0) then some (([] : List S_api_Entry), false) else grd (Len a0_Log.length) (loopL (fun (nx69 : List S_api_Entry → Option (List S_api_Entry × Bool)) (v17_1 : Nat) (x48 : S_api_Entry) (l20001_1 : List S_api_Entry) => (m_tholeref13_Cmp F x48.Version a1).bind (fun y53 => (bif decide (y53 > 0) then grd (App (l20001_1.length + [x48].length) 64) (nx69 (l20001_1 ++ [x48])) else nx69 l20001_1))) (fun (v17_1 : Nat) (l20001_1 : List S_api_Entry) => some (l20001_1, true)) a0_Log 0 ([] : List S_api_Entry))))

def m_tholeref13_Find (F : Nat) (a0_Les : Int) (a0_Tail : S_api_Version) (a0_Log : List S_api_Entry) (a0_Lasts : List S_api_Last) (a0_Items : List S_api_Item) (a1 : ByteArray) : Option (S_api_Item × Bool) :=
  grd (Len a0_Items.length) (loopL (fun (nx32 : Unit → Option (S_api_Item × Bool)) (v11_1 : Nat) (x22 : S_api_Item) (_ : Unit) => (bif x22.Name.toList == a1.toList then some (x22, true) else nx32 ())) (fun (v11_1 : Nat) (_ : Unit) => some ((S_api_Item.mk (ByteArray.mk #[]) (S_api_Version.mk 0 0) 0), false)) a0_Items 0 ())

def m_tholeref13_Seen (F : Nat) (a0_Les : Int) (a0_Tail : S_api_Version) (a0_Log : List S_api_Entry) (a0_Lasts : List S_api_Last) (a0_Items : List S_api_Item) (a1 : Int) (a2 : Int) : Option (S_api_Last × Int) :=
  grd (Len a0_Lasts.length) (loopL (fun (nx50 : Unit → Option (S_api_Last × Int)) (v13_1 : Nat) (x34 : S_api_Last) (_ : Unit) => (bif x34.Client != a1 then nx50 () else (bif a2 == x34.Number then some (x34, 1) else (bif decide (a2 < x34.Number) then some (x34, 2) else some ((S_api_Last.mk 0 0 0 (S_api_Version.mk 0 0)), 0))))) (fun (v13_1 : Nat) (_ : Unit) => some ((S_api_Last.mk 0 0 0 (S_api_Version.mk 0 0)), 0)) a0_Lasts 0 ())

def m_tholelaw13_entries (F : Nat) (a0 : List S_api_Entry) (a1 : List S_api_Entry) : Option (Bool) :=
  (bif ((a0.length : Nat) : Int) != ((a1.length : Nat) : Int) then some false else grd (Len a0.length) (loopL (fun (nx38 : Unit → Option (Bool)) (v13_1 : Nat) (x27 : S_api_Entry) (_ : Unit) => grd (v13_1 < a1.length) ((bif !(S_api_Entry.beq x27 (a1.getD v13_1 dS_api_Entry)) then some false else nx38 ()))) (fun (v13_1 : Nat) (_ : Unit) => some true) a0 0 ()))

def m_tholeref13_below (F : Nat) (a0 : S_api_Version) : Option (Bool) :=
  (bif decide (a0.Epoch < 0) then some true else some (decide (a0.N < 0)))

def m_tholeref09_Good (F : Nat) (a0 : ByteArray) : Option (Bool) :=
  grd (((a0.size : Nat) : Int) ≤ 9223372036854775807) (loopC (fun (nx41 : Unit → Option (Bool)) (v3_1 : Nat) (_ : Unit) => jn (fun (v19_3 : Bool) => (bif v19_3 then some false else nx41 ())) (fun (J33 : Bool → Option (Bool)) => grd (v3_1 < a0.size) ((bif decide ((((a0.data.getD v3_1 0).toNat : Nat) : Int) < 33) then J33 true else J33 (decide ((((a0.data.getD v3_1 0).toNat : Nat) : Int) > 126)))))) (fun (v3_1 : Nat) (_ : Unit) => (bif decide (((a0.size : Nat) : Int) ≥ 1) then some (decide (((a0.size : Nat) : Int) ≤ 64)) else some false)) (Int.toNat (((a0.size : Nat) : Int) - ((0 : Nat) : Int))) 0 ())

def m_tholeref13_Check (F : Nat) (a0_Les : Int) (a0_Tail : S_api_Version) (a0_Log : List S_api_Entry) (a0_Lasts : List S_api_Last) (a0_Items : List S_api_Item) : Option (Int) :=
  jn (fun (v23_0 : Bool) => (bif v23_0 then some 22 else grd (Len a0_Log.length) (loopL (fun (nx70 : Int × Int → Option (Int)) (v29_1 : Nat) (x51 : S_api_Entry) (s222 : Int × Int) => match s222 with | (c5_0_1, c5_1_1) => jn (fun (v42_3 : Bool) => (bif v42_3 then some 22 else nx70 (x51.Version.Epoch, x51.Version.N))) (fun (J61 : Bool → Option (Int)) => (m_tholeref13_below F x51.Version).bind (fun y56 => (bif y56 then J61 true else (m_tholeref13_Cmp F x51.Version (S_api_Version.mk c5_0_1 c5_1_1)).bind (fun y59 => J61 (decide (y59 ≤ 0))))))) (fun (v29_1 : Nat) (s223 : Int × Int) => match s223 with | (c5_0_1, c5_1_1) => grd (Len a0_Items.length) (loopL (fun (nx148 : Unit → Option (Int)) (v49_1 : Nat) (x124 : S_api_Item) (_ : Unit) => jn (fun (v91_3 : Bool) => (bif v91_3 then some 22 else nx148 ())) (fun (J140 : Bool → Option (Int)) => (m_tholeref09_Good F x124.Name).bind (fun y129 => (bif !y129 then J140 true else (m_tholeref13_below F x124.Version).bind (fun y132 => (bif y132 then J140 true else (bif S_api_Version.beq x124.Version (S_api_Version.mk 0 0) then J140 true else (m_tholeref13_Cmp F x124.Version (S_api_Version.mk c5_0_1 c5_1_1)).bind (fun y136 => (bif decide (y136 > 0) then J140 true else (bif decide (((v49_1 : Nat) : Int) > 0) then grd (I64 (((v49_1 : Nat) : Int) - 1)) (grd (Ix (((v49_1 : Nat) : Int) - 1) a0_Items.length) (J140 (!(Op.bytesLess ((a0_Items.getD (Int.toNat (((v49_1 : Nat) : Int) - 1)) dS_api_Item).Name).toList x124.Name.toList)))) else J140 false)))))))))) (fun (v49_1 : Nat) (_ : Unit) => grd (Len a0_Lasts.length) (loopL (fun (nx214 : Unit → Option (Int)) (v96_1 : Nat) (x194 : S_api_Last) (_ : Unit) => jn (fun (v126_3 : Bool) => (bif v126_3 then some 22 else nx214 ())) (fun (J206 : Bool → Option (Int)) => (m_tholeref13_below F x194.Version).bind (fun y199 => (bif y199 then J206 true else (m_tholeref13_Cmp F x194.Version (S_api_Version.mk c5_0_1 c5_1_1)).bind (fun y202 => (bif decide (y202 > 0) then J206 true else (bif decide (((v96_1 : Nat) : Int) > 0) then grd (I64 (((v96_1 : Nat) : Int) - 1)) (grd (Ix (((v96_1 : Nat) : Int) - 1) a0_Lasts.length) (J206 (decide (((a0_Lasts.getD (Int.toNat (((v96_1 : Nat) : Int) - 1)) dS_api_Last).Client) ≥ x194.Client)))) else J206 false))))))) (fun (v96_1 : Nat) (_ : Unit) => some 0) a0_Lasts 0 ())) a0_Items 0 ())) a0_Log 0 (a0_Tail.Epoch, a0_Tail.N)))) (fun (J7 : Bool → Option (Int)) => (bif decide (a0_Les < 0) then J7 true else (m_tholeref13_below F a0_Tail).bind (fun y4 => (bif y4 then J7 true else J7 (decide (((a0_Items.length : Nat) : Int) > 32))))))

def m_tholeref13_Head (F : Nat) (a0_Les : Int) (a0_Tail : S_api_Version) (a0_Log : List S_api_Entry) (a0_Lasts : List S_api_Last) (a0_Items : List S_api_Item) : Option (S_api_Version) :=
  (bif ((a0_Log.length : Nat) : Int) == 0 then some a0_Tail else grd (I64 (((a0_Log.length : Nat) : Int) - 1)) (grd (Ix (((a0_Log.length : Nat) : Int) - 1) a0_Log.length) (some ((a0_Log.getD (Int.toNat (((a0_Log.length : Nat) : Int) - 1)) dS_api_Entry).Version))))

def m_pglog_Info (F : Nat) (a0_Les : Int) (a0_Tail : S_api_Version) (a0_Log : List S_api_Entry) (a0_Lasts : List S_api_Last) (a0_Items : List S_api_Item) (a1 : Int) : Option (S_api_Info) :=
  (m_pglog_Head F a0_Les a0_Tail a0_Log a0_Lasts a0_Items).bind (fun y3 => some (S_api_Info.mk a0_Les y3 a0_Tail a1))

def m_tholeref13_Info (F : Nat) (a0_Les : Int) (a0_Tail : S_api_Version) (a0_Log : List S_api_Entry) (a0_Lasts : List S_api_Last) (a0_Items : List S_api_Item) (a1 : Int) : Option (S_api_Info) :=
  (m_tholeref13_Head F a0_Les a0_Tail a0_Log a0_Lasts a0_Items).bind (fun y3 => some (S_api_Info.mk a0_Les y3 a0_Tail a1))

def m_tholelaw13_PglogTells (F : Nat) (a0_Les : Int) (a0_Tail : S_api_Version) (a0_Log : List S_api_Entry) (a0_Lasts : List S_api_Last) (a0_Items : List S_api_Item) (a1 : S_api_Version) (a2 : S_tholelaw13_Ask) : Option (Bool) :=
  (m_tholeref13_Copy F a0_Les a0_Tail a0_Log a0_Lasts a0_Items).bind (fun y4 => (m_pglog_After F a0_Les a0_Tail a0_Log a0_Lasts a0_Items a1).bind (fun y14 => (m_tholeref13_After F a0_Les a0_Tail a0_Log a0_Lasts a0_Items a1).bind (fun y20 => (m_pglog_Find F a0_Les a0_Tail a0_Log a0_Lasts a0_Items a2.Name).bind (fun y26 => (m_tholeref13_Find F a0_Les a0_Tail a0_Log a0_Lasts a0_Items a2.Name).bind (fun y29 => (m_pglog_Seen F a0_Les a0_Tail a0_Log a0_Lasts a0_Items a2.Client a2.Number).bind (fun y32 => (m_tholeref13_Seen F a0_Les a0_Tail a0_Log a0_Lasts a0_Items a2.Client a2.Number).bind (fun y35 => jn (fun (v104_0 : Bool) => (bif v104_0 then some false else grd (((y14.1.length : Nat) : Int) ≤ 9223372036854775807) (loopC (fun (nx74 : List S_api_Entry → Option (Bool)) (v107_1 : Nat) (l12_1 : List S_api_Entry) => grd (v107_1 < l12_1.length) (nx74 (l12_1.set v107_1 (S_api_Entry.mk (S_api_Version.mk 0 0) false 0 (ByteArray.mk #[]) 0 0)))) (fun (v107_1 : Nat) (l12_1 : List S_api_Entry) => (m_pglog_Copy F a0_Les a0_Tail a0_Log a0_Lasts a0_Items).bind (fun y82 => (m_tholeref13_Same F y82.1 y82.2.1 y82.2.2.1 y82.2.2.2.1 y82.2.2.2.2 a0_Les a0_Tail a0_Log a0_Lasts a0_Items).bind (fun y92 => (bif !y92 then some false else grd (((y82.2.2.2.2.length : Nat) : Int) ≤ 9223372036854775807) (loopC (fun (nx120 : List S_api_Item → Option (Bool)) (v124_1 : Nat) (l20_1 : List S_api_Item) => grd (v124_1 < l20_1.length) (nx120 (l20_1.set v124_1 (S_api_Item.mk (ByteArray.mk #[]) (S_api_Version.mk 0 0) 0)))) (fun (v124_1 : Nat) (l20_1 : List S_api_Item) => (m_pglog_Check F a0_Les a0_Tail a0_Log a0_Lasts a0_Items).bind (fun y128 => (m_tholeref13_Check F a0_Les a0_Tail a0_Log a0_Lasts a0_Items).bind (fun y130 => (bif y128 == y130 then (m_pglog_Head F a0_Les a0_Tail a0_Log a0_Lasts a0_Items).bind (fun y133 => (m_tholeref13_Head F a0_Les a0_Tail a0_Log a0_Lasts a0_Items).bind (fun y135 => (bif S_api_Version.beq y133 y135 then (m_pglog_Info F a0_Les a0_Tail a0_Log a0_Lasts a0_Items a2.Client).bind (fun y138 => (m_tholeref13_Info F a0_Les a0_Tail a0_Log a0_Lasts a0_Items a2.Client).bind (fun y140 => (bif S_api_Info.beq y138 y140 then (m_tholeref13_Same F a0_Les a0_Tail a0_Log a0_Lasts a0_Items y4.1 y4.2.1 y4.2.2.1 y4.2.2.2.1 y4.2.2.2.2).bind (fun y143 => (bif y143 then (m_tholelaw13_lives F).bind (fun y146 => some y146) else some false)) else some false))) else some false))) else some false)))) (Int.toNat (((y82.2.2.2.2.length : Nat) : Int) - ((0 : Nat) : Int))) 0 y82.2.2.2.2))))) (Int.toNat (((y14.1.length : Nat) : Int) - ((0 : Nat) : Int))) 0 y14.1))) (fun (J45 : Bool → Option (Bool)) => (m_tholelaw13_entries F y14.1 y20.1).bind (fun y38 => (bif !y38 then J45 true else (bif !(y14.2 == y20.2) then J45 true else (bif !(S_api_Item.beq y26.1 y29.1) then J45 true else (bif !(y26.2 == y29.2) then J45 true else (bif !(S_api_Last.beq y32.1 y35.1) then J45 true else J45 (y32.2 != y35.2)))))))))))))))

def m_pglog_Trim (F : Nat) (a0_Les : Int) (a0_Tail : S_api_Version) (a0_Log : List S_api_Entry) (a0_Lasts : List S_api_Last) (a0_Items : List S_api_Item) (a1 : Int) : Option (Int × S_api_Version × List S_api_Entry × List S_api_Last × List S_api_Item) :=
  (m_pglog_Copy F a0_Les a0_Tail a0_Log a0_Lasts a0_Items).bind (fun y3 => grd (I64 (((y3.2.2.1.length : Nat) : Int) - (if 0 > a1 then 0 else a1))) ((bif decide ((((y3.2.2.1.length : Nat) : Int) - (if 0 > a1 then 0 else a1)) > 0) then grd (I64 ((((y3.2.2.1.length : Nat) : Int) - (if 0 > a1 then 0 else a1)) - 1)) (grd (Ix ((((y3.2.2.1.length : Nat) : Int) - (if 0 > a1 then 0 else a1)) - 1) y3.2.2.1.length) (grd (Bd (((y3.2.2.1.length : Nat) : Int) - (if 0 > a1 then 0 else a1)) y3.2.2.1.length) (grd (App ((y3.2.2.1.drop (Int.toNat (((y3.2.2.1.length : Nat) : Int) - (if 0 > a1 then 0 else a1)))).take (y3.2.2.1.length - (Int.toNat (((y3.2.2.1.length : Nat) : Int) - (if 0 > a1 then 0 else a1))))).length 64) (some (y3.1, ((y3.2.2.1.getD (Int.toNat ((((y3.2.2.1.length : Nat) : Int) - (if 0 > a1 then 0 else a1)) - 1)) dS_api_Entry).Version), ((y3.2.2.1.drop (Int.toNat (((y3.2.2.1.length : Nat) : Int) - (if 0 > a1 then 0 else a1)))).take (y3.2.2.1.length - (Int.toNat (((y3.2.2.1.length : Nat) : Int) - (if 0 > a1 then 0 else a1))))), y3.2.2.2.1, y3.2.2.2.2))))) else some (y3.1, y3.2.1, y3.2.2.1, y3.2.2.2.1, y3.2.2.2.2))))

def m_tholelaw13_PglogAfter (F : Nat) (a0_Les : Int) (a0_Tail : S_api_Version) (a0_Log : List S_api_Entry) (a0_Lasts : List S_api_Last) (a0_Items : List S_api_Item) (a1 : Int) : Option (Bool) :=
  jn (fun (v21_0 : Bool) => (bif v21_0 then (m_tholelaw13_lives F).bind (fun y11 => some y11) else grd ((IntKind.u64.wrap ((a0_Log.length : Nat) : Int)) ≠ 0) (grd (Ix (IntKind.i64.wrap (Int.tmod a1 (IntKind.u64.wrap ((a0_Log.length : Nat) : Int)))) a0_Log.length) ((m_pglog_After F a0_Les a0_Tail a0_Log a0_Lasts a0_Items ((a0_Log.getD (Int.toNat (IntKind.i64.wrap (Int.tmod a1 (IntKind.u64.wrap ((a0_Log.length : Nat) : Int))))) dS_api_Entry).Version)).bind (fun y17 => jn (fun (v52_0 : Bool) => (bif v52_0 then some false else grd (I64 (((a0_Log.length : Nat) : Int) - (IntKind.i64.wrap (Int.tmod a1 (IntKind.u64.wrap ((a0_Log.length : Nat) : Int)))))) (grd (I64 ((((a0_Log.length : Nat) : Int) - (IntKind.i64.wrap (Int.tmod a1 (IntKind.u64.wrap ((a0_Log.length : Nat) : Int))))) - 1)) ((m_pglog_Trim F a0_Les a0_Tail a0_Log a0_Lasts a0_Items ((((a0_Log.length : Nat) : Int) - (IntKind.i64.wrap (Int.tmod a1 (IntKind.u64.wrap ((a0_Log.length : Nat) : Int))))) - 1)).bind (fun y36 => (m_pglog_After F y36.1 y36.2.1 y36.2.2.1 y36.2.2.2.1 y36.2.2.2.2 ((a0_Log.getD (Int.toNat (IntKind.i64.wrap (Int.tmod a1 (IntKind.u64.wrap ((a0_Log.length : Nat) : Int))))) dS_api_Entry).Version)).bind (fun y46 => jn (fun (v90_0 : Bool) => (bif v90_0 then some false else (m_pglog_After F y36.1 y36.2.1 y36.2.2.1 y36.2.2.2.1 y36.2.2.2.2 a0_Tail).bind (fun y61 => (bif !y61.2 then (m_tholelaw13_lives F).bind (fun y68 => some y68) else some false)))) (fun (J55 : Bool → Option (Bool)) => (bif !y46.2 then J55 true else (m_tholelaw13_entries F y46.1 y17.1).bind (fun y52 => (bif !y52 then J55 true else J55 (!(S_api_Version.beq y36.2.1 ((a0_Log.getD (Int.toNat (IntKind.i64.wrap (Int.tmod a1 (IntKind.u64.wrap ((a0_Log.length : Nat) : Int))))) dS_api_Entry).Version))))))))))))) (fun (J28 : Bool → Option (Bool)) => (bif !y17.2 then J28 true else grd (I64 ((IntKind.i64.wrap (Int.tmod a1 (IntKind.u64.wrap ((a0_Log.length : Nat) : Int)))) + 1)) (grd (Bd ((IntKind.i64.wrap (Int.tmod a1 (IntKind.u64.wrap ((a0_Log.length : Nat) : Int)))) + 1) a0_Log.length) ((m_tholelaw13_entries F y17.1 ((a0_Log.drop (Int.toNat ((IntKind.i64.wrap (Int.tmod a1 (IntKind.u64.wrap ((a0_Log.length : Nat) : Int)))) + 1))).take (a0_Log.length - (Int.toNat ((IntKind.i64.wrap (Int.tmod a1 (IntKind.u64.wrap ((a0_Log.length : Nat) : Int)))) + 1))))).bind (fun y26 => J28 (!y26))))))))))) (fun (J6 : Bool → Option (Bool)) => (m_tholeref13_Check F a0_Les a0_Tail a0_Log a0_Lasts a0_Items).bind (fun y3 => (bif y3 != 0 then J6 true else J6 (((a0_Log.length : Nat) : Int) == 0))))

end Go.Proofs.Ytmoaiokgbjkaaaa
