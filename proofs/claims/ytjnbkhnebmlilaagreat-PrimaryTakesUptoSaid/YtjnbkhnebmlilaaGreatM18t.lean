/-
  CHAPTER 18t: the models of its functions.
-/
import Derived.Test.YtjnbkhnebmlilaaGreatProg
import Derived.Test.YtjnbkhnebmlilaaGreatGxl
set_option linter.unusedVariables false
set_option linter.unusedSimpArgs false
set_option maxRecDepth 100000
namespace Go.Proofs.YtjnbkhnebmlilaaGreat
open Go Go.RowKit Sx

structure S_api_Version where
  Epoch : Int
  N : Int
def S_api_Version.row (x : S_api_Version) : List Value := [.int .i64 x.Epoch, .int .i64 x.N]
def dS_api_Version : S_api_Version := S_api_Version.mk 0 0
def S_api_Version.beq (x y : S_api_Version) : Bool := (x.Epoch == y.Epoch) && ((x.N == y.N) && true)
theorem S_api_Version.beq_iff (x y : S_api_Version) : S_api_Version.beq x y = true ↔ x = y := by
  cases x; cases y; simp [S_api_Version.beq, str_beq]

structure S_api_Entry where
  Version : S_api_Version
  Remove : Bool
  Errno : Int
  Name : ByteArray
  Client : Int
  Number : Int
def S_api_Entry.row (x : S_api_Entry) : List Value := [.int .i64 x.Version.Epoch, .int .i64 x.Version.N, .bool x.Remove, .int .i64 x.Errno, .string x.Name, .int .i64 x.Client, .int .i64 x.Number]
def dS_api_Entry : S_api_Entry := S_api_Entry.mk dS_api_Version false 0 (ByteArray.mk #[]) 0 0
def S_api_Entry.beq (x y : S_api_Entry) : Bool := (S_api_Version.beq x.Version y.Version) && ((x.Remove == y.Remove) && ((x.Errno == y.Errno) && ((x.Name == y.Name) && ((x.Client == y.Client) && ((x.Number == y.Number) && true)))))
theorem S_api_Entry.beq_iff (x y : S_api_Entry) : S_api_Entry.beq x y = true ↔ x = y := by
  cases x; cases y; simp [S_api_Entry.beq, str_beq, S_api_Version.beq_iff]

structure S_api_Last where
  Client : Int
  Number : Int
  Errno : Int
  Version : S_api_Version
def S_api_Last.row (x : S_api_Last) : List Value := [.int .i64 x.Client, .int .i64 x.Number, .int .i64 x.Errno, .int .i64 x.Version.Epoch, .int .i64 x.Version.N]
def dS_api_Last : S_api_Last := S_api_Last.mk 0 0 0 dS_api_Version
def S_api_Last.beq (x y : S_api_Last) : Bool := (x.Client == y.Client) && ((x.Number == y.Number) && ((x.Errno == y.Errno) && ((S_api_Version.beq x.Version y.Version) && true)))
theorem S_api_Last.beq_iff (x y : S_api_Last) : S_api_Last.beq x y = true ↔ x = y := by
  cases x; cases y; simp [S_api_Last.beq, str_beq, S_api_Version.beq_iff]

structure S_api_Item where
  Name : ByteArray
  Version : S_api_Version
  Crc : Int
def S_api_Item.row (x : S_api_Item) : List Value := [.string x.Name, .int .i64 x.Version.Epoch, .int .i64 x.Version.N, .int .u32 x.Crc]
def dS_api_Item : S_api_Item := S_api_Item.mk (ByteArray.mk #[]) dS_api_Version 0
def S_api_Item.beq (x y : S_api_Item) : Bool := (x.Name == y.Name) && ((S_api_Version.beq x.Version y.Version) && ((x.Crc == y.Crc) && true))
theorem S_api_Item.beq_iff (x y : S_api_Item) : S_api_Item.beq x y = true ↔ x = y := by
  cases x; cases y; simp [S_api_Item.beq, str_beq, S_api_Version.beq_iff]

structure S_api_Node where
  Kind : Int
  Id : Int
def S_api_Node.row (x : S_api_Node) : List Value := [.int .i64 x.Kind, .int .i64 x.Id]
def S_api_Node.beq (x y : S_api_Node) : Bool := (x.Kind == y.Kind) && ((x.Id == y.Id) && true)
theorem S_api_Node.beq_iff (x y : S_api_Node) : S_api_Node.beq x y = true ↔ x = y := by
  cases x; cases y; simp [S_api_Node.beq, str_beq]

structure S_api_Pg where
  Pool : Int
  Seed : Int
def S_api_Pg.row (x : S_api_Pg) : List Value := [.int .i64 x.Pool, .int .i64 x.Seed]
def S_api_Pg.beq (x y : S_api_Pg) : Bool := (x.Pool == y.Pool) && ((x.Seed == y.Seed) && true)
theorem S_api_Pg.beq_iff (x y : S_api_Pg) : S_api_Pg.beq x y = true ↔ x = y := by
  cases x; cases y; simp [S_api_Pg.beq, str_beq]

structure S_sync_noCopy where
def S_sync_noCopy.row (x : S_sync_noCopy) : List Value := []
def S_sync_noCopy.beq (x y : S_sync_noCopy) : Bool := true
theorem S_sync_noCopy.beq_iff (x y : S_sync_noCopy) : S_sync_noCopy.beq x y = true ↔ x = y := by
  cases x; cases y; simp [S_sync_noCopy.beq]

structure S_atomic_noCopy where
def S_atomic_noCopy.row (x : S_atomic_noCopy) : List Value := []
def S_atomic_noCopy.beq (x y : S_atomic_noCopy) : Bool := true
theorem S_atomic_noCopy.beq_iff (x y : S_atomic_noCopy) : S_atomic_noCopy.beq x y = true ↔ x = y := by
  cases x; cases y; simp [S_atomic_noCopy.beq]

structure S_atomic_Bool where
  __ : S_atomic_noCopy
  v : Int
def S_atomic_Bool.row (x : S_atomic_Bool) : List Value := [.int .u32 x.v]
def S_atomic_Bool.beq (x y : S_atomic_Bool) : Bool := (S_atomic_noCopy.beq x.__ y.__) && ((x.v == y.v) && true)
theorem S_atomic_Bool.beq_iff (x y : S_atomic_Bool) : S_atomic_Bool.beq x y = true ↔ x = y := by
  cases x; cases y; simp [S_atomic_Bool.beq, str_beq, S_atomic_noCopy.beq_iff]

structure S_sync_Mutex where
  state : Int
  sema : Int
def S_sync_Mutex.row (x : S_sync_Mutex) : List Value := [.int .i32 x.state, .int .u32 x.sema]
def S_sync_Mutex.beq (x y : S_sync_Mutex) : Bool := (x.state == y.state) && ((x.sema == y.sema) && true)
theorem S_sync_Mutex.beq_iff (x y : S_sync_Mutex) : S_sync_Mutex.beq x y = true ↔ x = y := by
  cases x; cases y; simp [S_sync_Mutex.beq, str_beq]

structure S_sync_Mutex' where
  __ : S_sync_noCopy
  mu : S_sync_Mutex
def S_sync_Mutex'.row (x : S_sync_Mutex') : List Value := [.int .i32 x.mu.state, .int .u32 x.mu.sema]
def S_sync_Mutex'.beq (x y : S_sync_Mutex') : Bool := (S_sync_noCopy.beq x.__ y.__) && ((S_sync_Mutex.beq x.mu y.mu) && true)
theorem S_sync_Mutex'.beq_iff (x y : S_sync_Mutex') : S_sync_Mutex'.beq x y = true ↔ x = y := by
  cases x; cases y; simp [S_sync_Mutex'.beq, str_beq, S_sync_noCopy.beq_iff, S_sync_Mutex.beq_iff]

structure S_sync_Once where
  __ : S_sync_noCopy
  done : S_atomic_Bool
  m : S_sync_Mutex'
def S_sync_Once.row (x : S_sync_Once) : List Value := [.int .u32 x.done.v, .int .i32 x.m.mu.state, .int .u32 x.m.mu.sema]
def S_sync_Once.beq (x y : S_sync_Once) : Bool := (S_sync_noCopy.beq x.__ y.__) && ((S_atomic_Bool.beq x.done y.done) && ((S_sync_Mutex'.beq x.m y.m) && true))
theorem S_sync_Once.beq_iff (x y : S_sync_Once) : S_sync_Once.beq x y = true ↔ x = y := by
  cases x; cases y; simp [S_sync_Once.beq, str_beq, S_sync_noCopy.beq_iff, S_atomic_Bool.beq_iff, S_sync_Mutex'.beq_iff]

structure S_atomic_align64 where
def S_atomic_align64.row (x : S_atomic_align64) : List Value := []
def S_atomic_align64.beq (x y : S_atomic_align64) : Bool := true
theorem S_atomic_align64.beq_iff (x y : S_atomic_align64) : S_atomic_align64.beq x y = true ↔ x = y := by
  cases x; cases y; simp [S_atomic_align64.beq]

structure S_atomic_Int64 where
  __ : S_atomic_noCopy
  __i : S_atomic_align64
  v : Int
def S_atomic_Int64.row (x : S_atomic_Int64) : List Value := [.int .i64 x.v]
def S_atomic_Int64.beq (x y : S_atomic_Int64) : Bool := (S_atomic_noCopy.beq x.__ y.__) && ((S_atomic_align64.beq x.__i y.__i) && ((x.v == y.v) && true))
theorem S_atomic_Int64.beq_iff (x y : S_atomic_Int64) : S_atomic_Int64.beq x y = true ↔ x = y := by
  cases x; cases y; simp [S_atomic_Int64.beq, str_beq, S_atomic_noCopy.beq_iff, S_atomic_align64.beq_iff]

structure S_digest_Engine where
  once : S_sync_Once
  table : List Int
  calls : S_atomic_Int64
def S_digest_Engine.row (x : S_digest_Engine) : List Value := ([.int .u32 x.once.done.v, .int .i32 x.once.m.mu.state, .int .u32 x.once.m.mu.sema] : List Value) ++ (aU32 x.table ++ (([.int .i64 x.calls.v] : List Value)))
def S_digest_Engine.beq (x y : S_digest_Engine) : Bool := (S_sync_Once.beq x.once y.once) && ((x.table == y.table) && ((S_atomic_Int64.beq x.calls y.calls) && true))
theorem S_digest_Engine.beq_iff (x y : S_digest_Engine) : S_digest_Engine.beq x y = true ↔ x = y := by
  cases x; cases y; simp [S_digest_Engine.beq, str_beq, S_sync_Once.beq_iff, S_atomic_Int64.beq_iff]

@[reducible] def r5 (o : Option Addr) (l : List UInt8) : Ent := .rd o 1 (List.map rB l)
@[reducible] def r31 (o : Option Addr) (l : List S_api_Entry) : Ent := .rd o 7 (List.map S_api_Entry.row l)
@[reducible] def o31 (o : Option Addr) (c : Nat) (l : List S_api_Entry) : Ent := .osl o c 31 7 (List.map S_api_Entry.row l)
@[reducible] def r91 (o : Option Addr) (l : List S_api_Item) : Ent := .rd o 4 (List.map S_api_Item.row l)
@[reducible] def o91 (o : Option Addr) (c : Nat) (l : List S_api_Item) : Ent := .osl o c 91 4 (List.map S_api_Item.row l)
@[reducible] def r94 (o : Option Addr) (l : List S_api_Last) : Ent := .rd o 5 (List.map S_api_Last.row l)
@[reducible] def o94 (o : Option Addr) (c : Nat) (l : List S_api_Last) : Ent := .osl o c 94 5 (List.map S_api_Last.row l)

@[reducible] def kc0 (p0 : Int) (p1 : Int) (p2 : Int) (p3 : Option Addr) (p4 : Nat) (p5 : Nat) (p6 : Option Addr) (p7 : Nat) (p8 : Nat) (p9 : Option Addr) (p10 : Nat) (p11 : Nat) : List Value := [.int .i64 p0, .int .i64 p1, .int .i64 p2, .slice p3 p4 p5, .slice p6 p7 p8, .slice p9 p10 p11]
@[reducible] def kc1 (p0 : Int) (p1 : Int) (p2 : Bool) (p3 : Int) (p4 : ByteArray) (p5 : Int) (p6 : Int) : List Value := [.int .i64 p0, .int .i64 p1, .bool p2, .int .i64 p3, .string p4, .int .i64 p5, .int .i64 p6]
@[reducible] def kc2 (p0 : Int) (p1 : ByteArray) (p2 : Option Addr) (p3 : Nat) (p4 : Nat) (p5 : Int) (p6 : Int) : List Value := [.int .i64 p0, .string p1, .slice p2 p3 p4, .int .i64 p5, .int .i64 p6]
@[reducible] def kc3 (p0 : ByteArray) (p1 : Int) (p2 : Int) (p3 : Int) : List Value := [.string p0, .int .i64 p1, .int .i64 p2, .int .u32 p3]
@[reducible] def kc4 (p0 : Int) (p1 : Int) (p2 : Int) (p3 : Int) (p4 : Int) : List Value := [.int .i64 p0, .int .i64 p1, .int .i64 p2, .int .i64 p3, .int .i64 p4]
@[reducible] def kc5 : List Value := [.int .i64 3, .int .i64 0, .int .i64 0, .slice none 0 0, .slice none 0 0, .slice none 0 0]
@[reducible] def kc6 : List Value := [.int .i64 0, .int .i64 0, .int .i64 0, .slice none 0 0, .slice none 0 0, .slice none 0 0]
@[reducible] def kc7 (p0 : Option Addr) (p1 : Nat) : List Value := [.int .i64 3, .int .i64 0, .int .i64 0, .slice p0 0 p1, .slice none 0 0, .slice none 0 0]
@[reducible] def kc8 (p0 : Option Addr) (p1 : Nat) (p2 : Option Addr) (p3 : Nat) : List Value := [.int .i64 3, .int .i64 0, .int .i64 0, .slice p0 0 p1, .slice p2 0 p3, .slice none 0 0]
@[reducible] def kc9 (p0 : Option Addr) (p1 : Nat) (p2 : Option Addr) (p3 : Nat) (p4 : Option Addr) (p5 : Nat) : List Value := [.int .i64 3, .int .i64 0, .int .i64 0, .slice p0 0 p1, .slice p2 0 p3, .slice p4 0 p5]
@[reducible] def kc10 (p0 : Option Addr) (p1 : Nat) (p2 : Option Addr) (p3 : Nat) (p4 : Option Addr) (p5 : Nat) (p6 : Option Addr) (p7 : Nat) : List Value := [.int .i64 1, .int .i64 0, .int .i64 3, .int .i64 0, .int .i64 9, .slice p0 1 p1, .int .i64 3, .int .i64 0, .int .i64 0, .slice p2 0 p3, .slice p4 0 p5, .slice p6 0 p7, .slice none 0 0, .pointer none, .bool false, .int .i64 0, .bool true]
@[reducible] def kc11 (p0 : Option Addr) : List Value := [.int .i64 30, .int .i64 3, .int .i64 0, .int .i64 2, .int .i64 0, .int .i64 0, .int .i64 0, .int .i64 1, .int .i64 0, .int .i64 5, .int .i64 1, .int .i64 0, .slice none 0 0, .slice none 0 0, .slice none 0 0, .int .i64 0, .int .i64 0, .int .i64 0, .int .i64 0, .int .i64 0, .int .i64 0, .int .i64 0, .int .i64 0, .int .i64 0, .slice none 0 0, .slice none 0 0, .slice none 0 0, .int .i64 0, .int .i64 0, .bool false, .int .i64 0, .string (ByteArray.mk #[]), .int .i64 0, .int .i64 0, .string (ByteArray.mk #[]), .int .i64 0, .int .i64 0, .slice none 0 0, .int .i64 2, .string (ByteArray.mk #[97]), .slice p0 1 1, .int .i64 0, .int .i64 0, .slice none 0 0, .slice none 0 0, .int .i64 0]
@[reducible] def kc12 (p0 : Option Addr) (p1 : Nat) : List Value := [.int .i64 30, .int .i64 3, .int .i64 0, .int .i64 2, .int .i64 0, .int .i64 0, .int .i64 0, .int .i64 1, .int .i64 0, .int .i64 5, .int .i64 1, .int .i64 0, .slice none 0 0, .slice none 0 0, .slice none 0 0, .int .i64 0, .int .i64 0, .int .i64 0, .int .i64 0, .int .i64 0, .int .i64 0, .int .i64 0, .int .i64 0, .int .i64 0, .slice none 0 0, .slice none 0 0, .slice none 0 0, .int .i64 0, .int .i64 0, .bool false, .int .i64 0, .string (ByteArray.mk #[]), .int .i64 0, .int .i64 0, .string (ByteArray.mk #[]), .int .i64 0, .int .i64 0, .slice none 0 0, .int .i64 2, .string (ByteArray.mk #[97]), .slice p0 1 p1, .int .i64 0, .int .i64 0, .slice none 0 0, .slice none 0 0, .int .i64 0]
@[reducible] def kc13 : List Value := [.bool false, .int .i64 0, .int .i64 0, .int .i64 0, .slice none 0 0, .slice none 0 0, .slice none 0 0, .bool false, .string (ByteArray.mk #[]), .int .i64 0, .int .i64 0, .slice none 0 0, .bool false, .bool false, .string (ByteArray.mk #[]), .slice none 0 0]
@[reducible] def kc14 (p0 : Option Addr) (p1 : Nat) (p2 : Option Addr) (p3 : Nat) (p4 : Option Addr) (p5 : Nat) (p6 : Option Addr) (p7 : Nat) (p8 : Option Addr) (p9 : Nat) : List Value := [.int .i64 1, .int .i64 0, .int .i64 3, .int .i64 0, .int .i64 9, .slice p0 1 p1, .int .i64 3, .int .i64 0, .int .i64 0, .slice p2 0 p3, .slice p4 0 p5, .slice p6 0 p7, .slice p8 1 p9, .pointer none, .bool false, .int .i64 0, .bool true]
@[reducible] def kc15 (p0 : Option Addr) (p1 : Nat) (p2 : Option Addr) (p3 : Nat) (p4 : Option Addr) (p5 : Nat) (p6 : Option Addr) (p7 : Nat) (p8 : Option Addr) (p9 : Nat) : List Value := [.int .i64 1, .int .i64 0, .int .i64 3, .int .i64 0, .int .i64 9, .slice p0 1 p1, .int .i64 3, .int .i64 0, .int .i64 0, .slice p2 0 p3, .slice p4 0 p5, .slice p6 0 p7, .slice p8 0 p9, .pointer none, .bool false, .int .i64 0, .bool true]
@[reducible] def kc16 : List Value := [.int .i64 0, .int .i64 0, .int .i64 0, .int .i64 0, .int .i64 0]
@[reducible] def kc17 (p0 : Option Addr) (p1 : Nat) : List Value := [.int .i64 2, .string (ByteArray.mk #[97]), .slice p0 1 p1, .int .i64 0, .int .i64 0]
@[reducible] def kc18 : List Value := [.string (ByteArray.mk #[]), .int .i64 0, .int .i64 0, .int .u32 0]
@[reducible] def kc19 : List Value := [.int .i64 3, .int .i64 1, .bool false, .int .i64 0, .string (ByteArray.mk #[97]), .int .i64 5, .int .i64 1]
@[reducible] def kc20 (p0 : Option Addr) (p1 : Nat) (p2 : Option Addr) (p3 : Nat) : List Value := [.int .i64 30, .int .i64 3, .int .i64 0, .int .i64 2, .int .i64 0, .int .i64 0, .int .i64 0, .int .i64 1, .int .i64 0, .int .i64 5, .int .i64 1, .int .i64 0, .slice none 0 0, .slice none 0 0, .slice none 0 0, .int .i64 0, .int .i64 0, .int .i64 0, .int .i64 0, .int .i64 0, .int .i64 0, .int .i64 0, .int .i64 0, .int .i64 0, .slice none 0 0, .slice none 0 0, .slice none 0 0, .int .i64 0, .int .i64 0, .bool false, .int .i64 0, .string (ByteArray.mk #[]), .int .i64 0, .int .i64 0, .string (ByteArray.mk #[]), .int .i64 0, .int .i64 0, .slice none 0 0, .int .i64 2, .string (ByteArray.mk #[97]), .slice p0 1 p1, .int .i64 0, .int .i64 0, .slice none 0 0, .slice none 0 0, .int .i64 0, .bool true, .int .i64 3, .int .i64 1, .bool false, .int .i64 0, .string (ByteArray.mk #[97]), .int .i64 5, .int .i64 1, .string (ByteArray.mk #[]), .int .i64 0, .int .i64 0, .slice none 0 0, .int .i64 0, .slice p2 1 p3, .bool false]
@[reducible] def kc21 (p0 : Option Addr) (p1 : Nat) : List Value := [.string (ByteArray.mk #[97]), .int .i64 3, .int .i64 1, .slice p0 1 p1]
@[reducible] def kc22 (p0 : Option Addr) (p1 : Nat) (p2 : Option Addr) (p3 : Nat) (p4 : Option Addr) (p5 : Nat) : List Value := [.int .i64 30, .int .i64 3, .int .i64 0, .int .i64 2, .int .i64 0, .int .i64 0, .int .i64 0, .int .i64 1, .int .i64 0, .int .i64 5, .int .i64 1, .int .i64 0, .slice none 0 0, .slice none 0 0, .slice none 0 0, .int .i64 0, .int .i64 0, .int .i64 0, .int .i64 0, .int .i64 0, .int .i64 0, .int .i64 0, .int .i64 0, .int .i64 0, .slice none 0 0, .slice none 0 0, .slice none 0 0, .int .i64 0, .int .i64 0, .bool false, .int .i64 0, .string (ByteArray.mk #[]), .int .i64 0, .int .i64 0, .string (ByteArray.mk #[]), .int .i64 0, .int .i64 0, .slice none 0 0, .int .i64 2, .string (ByteArray.mk #[97]), .slice p0 1 p1, .int .i64 0, .int .i64 0, .slice none 0 0, .slice none 0 0, .int .i64 0, .bool true, .int .i64 3, .int .i64 1, .bool false, .int .i64 0, .string (ByteArray.mk #[97]), .int .i64 5, .int .i64 1, .string (ByteArray.mk #[97]), .int .i64 3, .int .i64 1, .slice p2 1 p3, .int .i64 0, .slice p4 1 p5, .bool false]
@[reducible] def kc23 (p0 : Option Addr) (p1 : Nat) (p2 : Option Addr) (p3 : Nat) (p4 : Option Addr) (p5 : Nat) : List Value := [.int .i64 3, .int .i64 0, .int .i64 0, .slice p0 1 p1, .slice p2 0 p3, .slice p4 0 p5]
@[reducible] def kc24 : List Value := [.int .i64 5, .int .i64 1, .int .i64 0, .int .i64 3, .int .i64 1]
@[reducible] def kc25 (p0 : Option Addr) (p1 : Nat) (p2 : Option Addr) (p3 : Nat) (p4 : Option Addr) (p5 : Nat) : List Value := [.int .i64 3, .int .i64 0, .int .i64 0, .slice p0 1 p1, .slice p2 1 p3, .slice p4 0 p5]
@[reducible] def kc26 (p0 : Int) : List Value := [.string (ByteArray.mk #[97]), .int .i64 3, .int .i64 1, .int .u32 p0]
@[reducible] def kc27 (p0 : Option Addr) (p1 : Nat) (p2 : Option Addr) (p3 : Nat) (p4 : Option Addr) (p5 : Nat) : List Value := [.int .i64 3, .int .i64 0, .int .i64 0, .slice p0 1 p1, .slice p2 1 p3, .slice p4 1 p5]
@[reducible] def kc28 (p0 : Option Addr) (p1 : Nat) (p2 : Option Addr) (p3 : Nat) (p4 : Option Addr) (p5 : Nat) (p6 : Option Addr) (p7 : Nat) (p8 : Option Addr) (p9 : Nat) : List Value := [.int .i64 1, .int .i64 0, .int .i64 3, .int .i64 0, .int .i64 9, .slice p0 1 p1, .int .i64 3, .int .i64 0, .int .i64 0, .slice p2 1 p3, .slice p4 1 p5, .slice p6 1 p7, .slice p8 0 p9, .pointer none, .bool false, .int .i64 0, .bool true]
@[reducible] def kc29 (p0 : Option Addr) (p1 : Nat) (p2 : Option Addr) (p3 : Nat) (p4 : Option Addr) (p5 : Nat) (p6 : Option Addr) (p7 : Nat) (p8 : Option Addr) (p9 : Nat) (p10 : Nat) : List Value := [.int .i64 1, .int .i64 0, .int .i64 3, .int .i64 0, .int .i64 9, .slice p0 1 p1, .int .i64 3, .int .i64 0, .int .i64 0, .slice p2 1 p3, .slice p4 1 p5, .slice p6 1 p7, .slice p8 0 p9, .pointer (some ⟨p10, 0, none⟩), .bool false, .int .i64 0, .bool true]
@[reducible] def kc30 (p0 : Option Addr) (p1 : Nat) (p2 : Option Addr) (p3 : Nat) (p4 : Option Addr) (p5 : Nat) : List Value := [.bool true, .int .i64 3, .int .i64 0, .int .i64 0, .slice p0 1 p1, .slice p2 1 p3, .slice p4 1 p5, .bool false, .string (ByteArray.mk #[]), .int .i64 0, .int .i64 0, .slice none 0 0, .bool false, .bool false, .string (ByteArray.mk #[]), .slice none 0 0]
@[reducible] def kc31 : List Value := [.string (ByteArray.mk #[]), .int .i64 0, .int .i64 0, .slice none 0 0]
@[reducible] def kc32 (p0 : Option Addr) (p1 : Nat) (p2 : Option Addr) (p3 : Nat) (p4 : Option Addr) (p5 : Nat) (p6 : Option Addr) (p7 : Nat) : List Value := [.bool true, .int .i64 3, .int .i64 0, .int .i64 0, .slice p0 1 p1, .slice p2 1 p3, .slice p4 1 p5, .bool true, .string (ByteArray.mk #[97]), .int .i64 3, .int .i64 1, .slice p6 1 p7, .bool false, .bool false, .string (ByteArray.mk #[]), .slice none 0 0]
@[reducible] def kc33 : List Value := [.int .i64 0, .int .i64 0, .int .i64 0, .int .i64 0, .int .i64 0, .int .i64 0, .int .i64 0, .int .i64 0, .int .i64 0, .int .i64 0, .int .i64 0, .int .i64 0, .slice none 0 0, .slice none 0 0, .slice none 0 0, .int .i64 0, .int .i64 0, .int .i64 0, .int .i64 0, .int .i64 0, .int .i64 0, .int .i64 0, .int .i64 0, .int .i64 0, .slice none 0 0, .slice none 0 0, .slice none 0 0, .int .i64 0, .int .i64 0, .bool false, .int .i64 0, .string (ByteArray.mk #[]), .int .i64 0, .int .i64 0, .string (ByteArray.mk #[]), .int .i64 0, .int .i64 0, .slice none 0 0, .int .i64 0, .string (ByteArray.mk #[]), .slice none 0 0, .int .i64 0, .int .i64 0, .slice none 0 0, .slice none 0 0, .int .i64 0]
@[reducible] def kc34 (p0 : Option Addr) (p1 : Nat) : List Value := [.int .i64 32, .int .i64 0, .int .i64 0, .int .i64 0, .int .i64 0, .int .i64 0, .int .i64 0, .int .i64 0, .int .i64 0, .int .i64 0, .int .i64 0, .int .i64 0, .slice none 0 0, .slice none 0 0, .slice none 0 0, .int .i64 0, .int .i64 0, .int .i64 0, .int .i64 0, .int .i64 0, .int .i64 0, .int .i64 0, .int .i64 0, .int .i64 0, .slice none 0 0, .slice none 0 0, .slice none 0 0, .int .i64 3, .int .i64 1, .bool false, .int .i64 0, .string (ByteArray.mk #[97]), .int .i64 5, .int .i64 1, .string (ByteArray.mk #[97]), .int .i64 3, .int .i64 1, .slice p0 1 p1, .int .i64 0, .string (ByteArray.mk #[]), .slice none 0 0, .int .i64 0, .int .i64 0, .slice none 0 0, .slice none 0 0, .int .i64 0]
@[reducible] def kc35 (p0 : Option Addr) (p1 : Nat) : List Value := [.int .i64 32, .int .i64 2, .int .i64 0, .int .i64 2, .int .i64 1, .int .i64 0, .int .i64 0, .int .i64 0, .int .i64 0, .int .i64 0, .int .i64 0, .int .i64 0, .slice none 0 0, .slice none 0 0, .slice none 0 0, .int .i64 0, .int .i64 0, .int .i64 0, .int .i64 0, .int .i64 0, .int .i64 0, .int .i64 0, .int .i64 0, .int .i64 0, .slice none 0 0, .slice none 0 0, .slice none 0 0, .int .i64 3, .int .i64 1, .bool false, .int .i64 0, .string (ByteArray.mk #[97]), .int .i64 5, .int .i64 1, .string (ByteArray.mk #[97]), .int .i64 3, .int .i64 1, .slice p0 1 p1, .int .i64 0, .string (ByteArray.mk #[]), .slice none 0 0, .int .i64 0, .int .i64 0, .slice none 0 0, .slice none 0 0, .int .i64 0]
@[reducible] def kc36 (p0 : Option Addr) (p1 : Nat) : List Value := [.int .i64 32, .int .i64 2, .int .i64 0, .int .i64 2, .int .i64 1, .int .i64 9, .int .i64 3, .int .i64 1, .int .i64 0, .int .i64 0, .int .i64 0, .int .i64 0, .slice none 0 0, .slice none 0 0, .slice none 0 0, .int .i64 0, .int .i64 0, .int .i64 0, .int .i64 0, .int .i64 0, .int .i64 0, .int .i64 0, .int .i64 0, .int .i64 0, .slice none 0 0, .slice none 0 0, .slice none 0 0, .int .i64 3, .int .i64 1, .bool false, .int .i64 0, .string (ByteArray.mk #[97]), .int .i64 5, .int .i64 1, .string (ByteArray.mk #[97]), .int .i64 3, .int .i64 1, .slice p0 1 p1, .int .i64 0, .string (ByteArray.mk #[]), .slice none 0 0, .int .i64 0, .int .i64 0, .slice none 0 0, .slice none 0 0, .int .i64 0]
@[reducible] def kc37 (p0 : Option Addr) (p1 : Nat) (p2 : Option Addr) (p3 : Nat) (p4 : Option Addr) (p5 : Nat) (p6 : Option Addr) (p7 : Nat) (p8 : Option Addr) (p9 : Nat) : List Value := [.bool true, .int .i64 3, .int .i64 0, .int .i64 0, .slice p0 1 p1, .slice p2 1 p3, .slice p4 1 p5, .bool true, .string (ByteArray.mk #[97]), .int .i64 3, .int .i64 1, .slice p6 1 p7, .bool false, .bool false, .string (ByteArray.mk #[]), .slice p8 1 p9]
@[reducible] def kc38 : List Value := [.int .i64 33, .int .i64 2, .int .i64 1, .int .i64 2, .int .i64 0, .int .i64 0, .int .i64 3, .int .i64 1, .int .i64 0, .int .i64 0, .int .i64 0, .int .i64 0, .slice none 0 0, .slice none 0 0, .slice none 0 0, .int .i64 0, .int .i64 0, .int .i64 0, .int .i64 0, .int .i64 0, .int .i64 0, .int .i64 0, .int .i64 0, .int .i64 0, .slice none 0 0, .slice none 0 0, .slice none 0 0, .int .i64 3, .int .i64 1, .bool false, .int .i64 0, .string (ByteArray.mk #[97]), .int .i64 5, .int .i64 1, .string (ByteArray.mk #[]), .int .i64 0, .int .i64 0, .slice none 0 0, .int .i64 0, .string (ByteArray.mk #[]), .slice none 0 0, .int .i64 0, .int .i64 0, .slice none 0 0, .slice none 0 0, .int .i64 0]
@[reducible] def kc39 (p0 : Option Addr) (p1 : Nat) (p2 : Option Addr) (p3 : Nat) (p4 : Option Addr) (p5 : Nat) : List Value := [.int .i64 30, .int .i64 3, .int .i64 0, .int .i64 2, .int .i64 0, .int .i64 0, .int .i64 0, .int .i64 1, .int .i64 0, .int .i64 5, .int .i64 1, .int .i64 0, .slice none 0 0, .slice none 0 0, .slice none 0 0, .int .i64 0, .int .i64 0, .int .i64 0, .int .i64 0, .int .i64 0, .int .i64 0, .int .i64 0, .int .i64 0, .int .i64 0, .slice none 0 0, .slice none 0 0, .slice none 0 0, .int .i64 0, .int .i64 0, .bool false, .int .i64 0, .string (ByteArray.mk #[]), .int .i64 0, .int .i64 0, .string (ByteArray.mk #[]), .int .i64 0, .int .i64 0, .slice none 0 0, .int .i64 2, .string (ByteArray.mk #[97]), .slice p0 1 p1, .int .i64 0, .int .i64 0, .slice none 0 0, .slice none 0 0, .int .i64 0, .bool true, .int .i64 3, .int .i64 1, .bool false, .int .i64 0, .string (ByteArray.mk #[97]), .int .i64 5, .int .i64 1, .string (ByteArray.mk #[97]), .int .i64 3, .int .i64 1, .slice p2 1 p3, .int .i64 0, .slice p4 0 p5, .bool false]
@[reducible] def kc40 : List Value := [.string (ByteArray.mk #[97]), .int .i64 3, .int .i64 1, .slice none 0 0]
@[reducible] def kc41 : List Value := [.int .i64 0, .int .i64 0, .int .i64 0, .int .i64 0, .int .i64 0, .int .i64 0, .int .i64 0, .int .i64 0, .int .i64 0, .int .i64 0, .int .i64 0, .int .i64 0, .slice none 0 0, .slice none 0 0, .slice none 0 0, .int .i64 0, .int .i64 0, .int .i64 0, .int .i64 0, .int .i64 0, .int .i64 0, .int .i64 0, .int .i64 0, .int .i64 0, .slice none 0 0, .slice none 0 0, .slice none 0 0, .int .i64 0, .int .i64 0, .bool false, .int .i64 0, .string (ByteArray.mk #[]), .int .i64 0, .int .i64 0, .string (ByteArray.mk #[97]), .int .i64 3, .int .i64 1, .slice none 0 0, .int .i64 0, .string (ByteArray.mk #[]), .slice none 0 0, .int .i64 0, .int .i64 0, .slice none 0 0, .slice none 0 0, .int .i64 0]
@[reducible] def kc42 : List Value := [.int .i64 31, .int .i64 0, .int .i64 0, .int .i64 0, .int .i64 0, .int .i64 0, .int .i64 0, .int .i64 0, .int .i64 0, .int .i64 5, .int .i64 1, .int .i64 0, .slice none 0 0, .slice none 0 0, .slice none 0 0, .int .i64 0, .int .i64 0, .int .i64 0, .int .i64 0, .int .i64 0, .int .i64 0, .int .i64 0, .int .i64 0, .int .i64 0, .slice none 0 0, .slice none 0 0, .slice none 0 0, .int .i64 0, .int .i64 0, .bool false, .int .i64 0, .string (ByteArray.mk #[]), .int .i64 0, .int .i64 0, .string (ByteArray.mk #[97]), .int .i64 3, .int .i64 1, .slice none 0 0, .int .i64 0, .string (ByteArray.mk #[]), .slice none 0 0, .int .i64 0, .int .i64 0, .slice none 0 0, .slice none 0 0, .int .i64 0]
@[reducible] def kc43 : List Value := [.int .i64 31, .int .i64 2, .int .i64 0, .int .i64 2, .int .i64 0, .int .i64 0, .int .i64 0, .int .i64 0, .int .i64 0, .int .i64 5, .int .i64 1, .int .i64 0, .slice none 0 0, .slice none 0 0, .slice none 0 0, .int .i64 0, .int .i64 0, .int .i64 0, .int .i64 0, .int .i64 0, .int .i64 0, .int .i64 0, .int .i64 0, .int .i64 0, .slice none 0 0, .slice none 0 0, .slice none 0 0, .int .i64 0, .int .i64 0, .bool false, .int .i64 0, .string (ByteArray.mk #[]), .int .i64 0, .int .i64 0, .string (ByteArray.mk #[97]), .int .i64 3, .int .i64 1, .slice none 0 0, .int .i64 0, .string (ByteArray.mk #[]), .slice none 0 0, .int .i64 0, .int .i64 0, .slice none 0 0, .slice none 0 0, .int .i64 0]
@[reducible] def kc44 : List Value := [.int .i64 31, .int .i64 2, .int .i64 0, .int .i64 2, .int .i64 0, .int .i64 9, .int .i64 3, .int .i64 1, .int .i64 0, .int .i64 5, .int .i64 1, .int .i64 0, .slice none 0 0, .slice none 0 0, .slice none 0 0, .int .i64 0, .int .i64 0, .int .i64 0, .int .i64 0, .int .i64 0, .int .i64 0, .int .i64 0, .int .i64 0, .int .i64 0, .slice none 0 0, .slice none 0 0, .slice none 0 0, .int .i64 0, .int .i64 0, .bool false, .int .i64 0, .string (ByteArray.mk #[]), .int .i64 0, .int .i64 0, .string (ByteArray.mk #[97]), .int .i64 3, .int .i64 1, .slice none 0 0, .int .i64 0, .string (ByteArray.mk #[]), .slice none 0 0, .int .i64 0, .int .i64 0, .slice none 0 0, .slice none 0 0, .int .i64 0]
@[reducible] def kc45 : List Value := [.int .i64 31, .int .i64 2, .int .i64 0, .int .i64 3, .int .i64 0, .int .i64 9, .int .i64 3, .int .i64 1, .int .i64 0, .int .i64 5, .int .i64 1, .int .i64 0, .slice none 0 0, .slice none 0 0, .slice none 0 0, .int .i64 0, .int .i64 0, .int .i64 0, .int .i64 0, .int .i64 0, .int .i64 0, .int .i64 0, .int .i64 0, .int .i64 0, .slice none 0 0, .slice none 0 0, .slice none 0 0, .int .i64 0, .int .i64 0, .bool false, .int .i64 0, .string (ByteArray.mk #[]), .int .i64 0, .int .i64 0, .string (ByteArray.mk #[97]), .int .i64 3, .int .i64 1, .slice none 0 0, .int .i64 0, .string (ByteArray.mk #[]), .slice none 0 0, .int .i64 0, .int .i64 0, .slice none 0 0, .slice none 0 0, .int .i64 0]
@[reducible] def kc46 (p0 : Option Addr) (p1 : Nat) : List Value := [.bool false, .int .i64 0, .int .i64 0, .int .i64 0, .slice none 0 0, .slice none 0 0, .slice none 0 0, .bool false, .string (ByteArray.mk #[]), .int .i64 0, .int .i64 0, .slice none 0 0, .bool false, .bool false, .string (ByteArray.mk #[]), .slice p0 1 p1]
@[reducible] def kc47 (p0 : Int) (p1 : Int) (p2 : Int) (p3 : Option Addr) (p4 : Nat) (p5 : Nat) : List Value := [.int .i64 p0, .int .i64 p1, .int .i64 p2, .slice p3 p4 p5, .slice none 0 0, .slice none 0 0]
@[reducible] def kc48 (p0 : Int) (p1 : Int) (p2 : Int) (p3 : Option Addr) (p4 : Nat) (p5 : Nat) (p6 : Option Addr) (p7 : Nat) (p8 : Nat) : List Value := [.int .i64 p0, .int .i64 p1, .int .i64 p2, .slice p3 p4 p5, .slice p6 p7 p8, .slice none 0 0]

def m_tholeref13_below (F : Nat) (a0 : S_api_Version) : Option (Bool) :=
  (bif decide (a0.Epoch < 0) then some true else some (decide (a0.N < 0)))

def m_tholeref13_Cmp (F : Nat) (a0 : S_api_Version) (a1 : S_api_Version) : Option (Int) :=
  jn (fun (a : Bool) => (bif a then some (-1) else (bif S_api_Version.beq a0 a1 then some 0 else some 1))) (fun (J9 : Bool → Option (Int)) => (bif decide (a0.Epoch < a1.Epoch) then J9 (decide (a0.Epoch < a1.Epoch)) else (bif a0.Epoch == a1.Epoch then J9 (decide (a0.N < a1.N)) else J9 false)))

def m_tholeref09_Good (F : Nat) (a0 : ByteArray) : Option (Bool) :=
  grd ((a0.size : Int) ≤ 9223372036854775807) (loopC (fun (c : Unit → Option (Bool)) (a : Nat) (_ : Unit) => jn (fun (b : Bool) => (bif b then some false else c ())) (fun (d : Bool → Option (Bool)) => grd (a < a0.size) ((bif decide ((((a0.data.getD a 0).toNat : Nat) : Int) < 33) then d true else d (decide ((((a0.data.getD a 0).toNat : Nat) : Int) > 126)))))) (fun (a : Nat) (_ : Unit) => (bif decide ((a0.size : Int) ≥ 1) then some (decide ((a0.size : Int) ≤ 64)) else some false)) (Int.toNat ((a0.size : Int) - (0 : Int))) 0 ())

def m_tholeref13_Check (F : Nat) (n : Int) (f : S_api_Version) (j : List S_api_Entry) (b : List S_api_Last) (a : List S_api_Item) : Option (Int) :=
  jn (fun (p : Bool) => (bif p then some 22 else grd (Len j.length) (loopL (fun (v : Int × Int → Option (Int)) (q : Nat) (o : S_api_Entry) (w : Int × Int) => match w with | (d, e) => jn (fun (r : Bool) => (bif r then some 22 else v (o.Version.Epoch, o.Version.N))) (fun (x : Bool → Option (Int)) => (m_tholeref13_below F o.Version).bind (fun E => (bif E then x true else (m_tholeref13_Cmp F o.Version (S_api_Version.mk d e)).bind (fun G => x (decide (G ≤ 0))))))) (fun (q : Nat) (y : Int × Int) => match y with | (d, e) => grd (Len a.length) (loopL (fun (s : Unit → Option (Int)) (g : Nat) (i : S_api_Item) (_ : Unit) => jn (fun (t : Bool) => (bif t then some 22 else s ())) (fun (h : Bool → Option (Int)) => (m_tholeref09_Good F i.Name).bind (fun z => (bif !z then h true else (m_tholeref13_below F i.Version).bind (fun A => (bif A then h true else (bif S_api_Version.beq i.Version (S_api_Version.mk 0 0) then h true else (m_tholeref13_Cmp F i.Version (S_api_Version.mk d e)).bind (fun B => (bif decide (B > 0) then h true else (bif decide ((g : Int) > 0) then grd (I64 ((g : Int) - 1)) (grd (Ix ((g : Int) - 1) a.length) (h (!(Op.bytesLess ((a.getD (Int.toNat ((g : Int) - 1)) dS_api_Item).Name).toList i.Name.toList)))) else h false)))))))))) (fun (g : Nat) (_ : Unit) => grd (Len b.length) (loopL (fun (u : Unit → Option (Int)) (c : Nat) (l : S_api_Last) (_ : Unit) => jn (fun (m : Bool) => (bif m then some 22 else u ())) (fun (k : Bool → Option (Int)) => (m_tholeref13_below F l.Version).bind (fun C => (bif C then k true else (m_tholeref13_Cmp F l.Version (S_api_Version.mk d e)).bind (fun D => (bif decide (D > 0) then k true else (bif decide ((c : Int) > 0) then grd (I64 ((c : Int) - 1)) (grd (Ix ((c : Int) - 1) b.length) (k (decide (((b.getD (Int.toNat ((c : Int) - 1)) dS_api_Last).Client) ≥ l.Client)))) else k false))))))) (fun (c : Nat) (_ : Unit) => some 0) b 0 ())) a 0 ())) j 0 (f.Epoch, f.N)))) (fun (J7 : Bool → Option (Int)) => (bif decide (n < 0) then J7 true else (m_tholeref13_below F f).bind (fun y4 => (bif y4 then J7 true else J7 (decide ((a.length : Int) > 32))))))

def m_slices_Index___int_int_ (F : Nat) : Option (Unit) :=
  some ()

def m_slices_Contains___int_int_ (F : Nat) : Option (Unit) :=
  (m_slices_Index___int_int_ F).bind (fun y3 => some ())

def m_pglog_below (F : Nat) : Option (Unit) :=
  some ()

def m_pglog_rising_api_Item_string_ (F : Nat) : Option (Unit) :=
  some ()

def m_pglog_rising_api_Last_int_ (F : Nat) : Option (Unit) :=
  some ()

def m_pglog_Check (F : Nat) : Option (Unit) :=
  (m_pglog_below F).bind (fun y3 => (m_pglog_rising_api_Item_string_ F).bind (fun y9 => (m_pglog_rising_api_Last_int_ F).bind (fun a => some ())))

def m_pglog_Copy (F : Nat) : Option (Unit) :=
  some ()

def m_primary_New (F : Nat) : Option (Unit) :=
  (m_slices_Contains___int_int_ F).bind (fun y3 => (m_pglog_Check F).bind (fun y5 => (m_pglog_Copy F).bind (fun a => some ())))

def m_slices_IndexFunc___api_Msg_api_Msg_ (F : Nat) : Option (Unit) :=
  some ()

def m_slices_ContainsFunc___api_Msg_api_Msg_ (F : Nat) : Option (Unit) :=
  (m_slices_IndexFunc___api_Msg_api_Msg_ F).bind (fun y3 => some ())

def m_slices_Clone___byte_byte_ (F : Nat) : Option (Unit) :=
  some ()

def m_pglog_Seen (F : Nat) : Option (Unit) :=
  some ()

def m_pglog_Find (F : Nat) : Option (Unit) :=
  some ()

def m_place_Good (F : Nat) : Option (Unit) :=
  some ()

def m_primary_Verdict (F : Nat) : Option (Unit) :=
  (m_pglog_Find F).bind (fun y3 => (m_place_Good F).bind (fun y9 => some ()))

def m_pglog_Head (F : Nat) : Option (Unit) :=
  some ()

def m_primary_Next (F : Nat) : Option (Unit) :=
  (m_pglog_Head F).bind (fun y3 => some ())

def m_slices_Clone___int_int_ (F : Nat) : Option (Unit) :=
  some ()

def m_digest_New (F : Nat) : Option (Unit) :=
  some ()

def m___digest_Engine__make (F : Nat) (a0 : S_digest_Engine) : Option (S_digest_Engine) :=
  grd ((256 : Int) ≤ 9223372036854775807) (loopC (fun (e : List Int → Option (S_digest_Engine)) (c : Nat) (a : List Int) => grd ((8 : Int) ≤ 9223372036854775807) (loopC (fun (d : Int → Option (S_digest_Engine)) (f : Nat) (b : Int) => (bif (iand .u32 b 1) == 1 then d (ixor .u32 (Int.fdiv b (2 ^ 1)) 2197175160) else d (Int.fdiv b (2 ^ 1)))) (fun (f : Nat) (b : Int) => grd (c < 256) (grd (c < a.length) (e (a.set c b)))) (Int.toNat (8 - (0 : Int))) 0 (IntKind.u32.wrap (c : Int)))) (fun (c : Nat) (a : List Int) => some (S_digest_Engine.mk a0.once a a0.calls)) (Int.toNat (256 - (0 : Int))) 0 a0.table)

/-- What sync.Once.Do makes of an engine's table. -/
def m_once (F : Nat) (d st se : Int) (L : List Int) (c : Int) : Option (List Int) :=
  grd (st = 0) (grd (L.length = 256) (bif d == 1 then some L else grd (d = 0) ((m___digest_Engine__make F (S_digest_Engine.mk (S_sync_Once.mk S_sync_noCopy.mk (S_atomic_Bool.mk S_atomic_noCopy.mk 0) (S_sync_Mutex'.mk S_sync_noCopy.mk (S_sync_Mutex.mk 1 se))) L (S_atomic_Int64.mk S_atomic_noCopy.mk S_atomic_align64.mk c))).bind (fun y => grd (y.once.done.v = 0 ∧ y.once.m.mu.state = 1 ∧ y.once.m.mu.sema = se ∧ y.calls.v = c ∧ y.table.length = 256) (some y.table)))))

def m___digest_Engine__Crc (F : Nat) : Option (List Int × Int) :=
  (m_once F 0 0 0 (List.replicate 256 0) 1).bind (fun y6 => grd (135 < y6.length) (some (y6, (ixor .u32 4294967295 (ixor .u32 16777215 (y6.getD 135 0))))))

def m_cmp_isNaN_int_ (F : Nat) : Option (Unit) :=
  some ()

def m_cmp_isNaN_int__2 (F : Nat) : Option (Unit) :=
  some ()

def m_cmp_Compare_int_ (F : Nat) : Option (Unit) :=
  (m_cmp_isNaN_int_ F).bind (fun y3 => (m_cmp_isNaN_int__2 F).bind (fun y6 => some ()))

def m_pglog_Cmp (F : Nat) : Option (Unit) :=
  (m_cmp_Compare_int_ F).bind (fun y3 => some ())

def m_pglog_Copy_2 (F : Nat) : Option (Unit) :=
  some ()

def m_slices_BinarySearchFunc___api_Last_api_Last_int_ (F : Nat) : Option (Unit) :=
  some ()

def m_pglog_look_api_Last_int_ (F : Nat) : Option (Unit) :=
  (m_slices_BinarySearchFunc___api_Last_api_Last_int_ F).bind (fun y3 => some ())

def m_slices_Insert___api_Last_api_Last_ (F : Nat) : Option (Unit) :=
  some ()

def m_slices_BinarySearchFunc___api_Item_api_Item_string_ (F : Nat) : Option (Unit) :=
  some ()

def m_pglog_look_api_Item_string_ (F : Nat) : Option (Unit) :=
  (m_slices_BinarySearchFunc___api_Item_api_Item_string_ F).bind (fun y3 => some ())

def m_slices_Insert___api_Item_api_Item_ (F : Nat) (a : Int) : Option (Int) :=
  some a

def m_pglog_Append (F : Nat) (a2 : Int) : Option (Int) :=
  (m_pglog_Find F).bind (fun y3 => (m_pglog_Head F).bind (fun y6 => (m_pglog_Cmp F).bind (fun y8 => (m_place_Good F).bind (fun b => (m_pglog_Copy_2 F).bind (fun c => (m_pglog_look_api_Last_int_ F).bind (fun d => (m_slices_Insert___api_Last_api_Last_ F).bind (fun e => (m_pglog_look_api_Item_string_ F).bind (fun f => (m_slices_Insert___api_Item_api_Item_ F a2).bind (fun a => some a)))))))))

def m_pglog_Copy_3 (F : Nat) (a : Int) : Option (Int) :=
  some a

def m_pglog_Trim (F : Nat) (a : Int) : Option (Int) :=
  (m_pglog_Copy_3 F a).bind (fun y3 => some y3)

def m_primary_copied (F : Nat) : Option (Unit) :=
  (m_slices_Clone___byte_byte_ F).bind (fun y3 => some ())

def m___primary_Machine__stored (F : Nat) (a : Int) : Option (Int) :=
  (m_pglog_Copy_3 F a).bind (fun y3 => (m_primary_copied F).bind (fun b => some y3))

def m___primary_Machine__to (F : Nat) (a : Int) : Option (Unit) :=
  some ()

def m___primary_Machine__ask (F : Nat) (a : Int) : Option (Unit) :=
  (m_primary_copied F).bind (fun y5 => (m___primary_Machine__to F a).bind (fun y9 => some ()))

def m___primary_Machine__done (F : Nat) (a : Int) (b : Int) : Option (Unit) :=
  some ()

def m___primary_Machine__write (F : Nat) : Option (Int × Int) :=
  (m_pglog_Seen F).bind (fun y3 => (m_primary_Verdict F).bind (fun y9 => (m_primary_Next F).bind (fun e => (m_slices_Clone___int_int_ F).bind (fun f => (m_slices_Clone___byte_byte_ F).bind (fun g => (m_digest_New F).bind (fun h => (m___digest_Engine__Crc F).bind (fun c => (m_pglog_Append F c.2).bind (fun d => (m_pglog_Trim F d).bind (fun a => (m___primary_Machine__stored F a).bind (fun b => (m___primary_Machine__ask F a).bind (fun i => (m___primary_Machine__done F a b).bind (fun j => some (a, b)))))))))))))

def m___primary_Machine__begin (F : Nat) : Option (Int × Int) :=
  (m___primary_Machine__write F).bind (fun y9 => some (y9.1, y9.2))

def m___primary_Machine__request (F : Nat) : Option (Int × Int) :=
  (m_slices_ContainsFunc___api_Msg_api_Msg_ F).bind (fun y6 => (m_slices_Clone___byte_byte_ F).bind (fun y9 => (m___primary_Machine__begin F).bind (fun a => some (a.1, a.2))))

def m___primary_Machine__Step (F : Nat) : Option (Int × Int) :=
  (m___primary_Machine__request F).bind (fun y6 => some (y6.1, y6.2))

def m___primary_Machine__Idle (F : Nat) (a : Int) : Option (Unit) :=
  some ()

def m_slices_Index___int_int__2 (F : Nat) : Option (Unit) :=
  some ()

def m_slices_Delete___int_int_ (F : Nat) : Option (Unit) :=
  some ()

def m___primary_Machine__to_2 (F : Nat) (a : Int) : Option (Unit) :=
  some ()

def m___primary_Machine__answer (F : Nat) (a : Int) : Option (Unit) :=
  (m___primary_Machine__to_2 F a).bind (fun y4 => some ())

def m___primary_Machine__done_2 (F : Nat) (a : Int) : Option (Unit) :=
  (m___primary_Machine__answer F a).bind (fun b => some ())

def m___primary_Machine__begin_2 (F : Nat) (a : Int) : Option (Unit) :=
  some ()

def m___primary_Machine__acked (F : Nat) (a : Int) : Option (Unit) :=
  (m_slices_Index___int_int__2 F).bind (fun y5 => (m_slices_Delete___int_int_ F).bind (fun b => (m___primary_Machine__done_2 F a).bind (fun c => (m___primary_Machine__begin_2 F a).bind (fun d => some ()))))

def m___primary_Machine__Step_2 (F : Nat) (a : Int) : Option (Unit) :=
  (m___primary_Machine__acked F a).bind (fun y7 => some ())

def m___primary_Machine__Idle_2 (F : Nat) (a : Int) : Option (Unit) :=
  some ()

def m_tholelaw18_lives (F : Nat) : Option (Unit) :=
  (m_primary_New F).bind (fun y3 => (m___primary_Machine__Step F).bind (fun a => (m___primary_Machine__Idle F a.1).bind (fun b => (m___primary_Machine__Step_2 F a.1).bind (fun c => (m___primary_Machine__Idle_2 F a.1).bind (fun d => some ())))))

def m_pglog_Head_2 (F : Nat) (e : Int) (b : S_api_Version) (a : List S_api_Entry) (c : List S_api_Last) (d : List S_api_Item) : Option (S_api_Version) :=
  (bif decide ((a.length : Int) > 0) then grd (I64 ((a.length : Int) - 1)) (grd (Ix ((a.length : Int) - 1) a.length) (some ((a.getD (Int.toNat ((a.length : Int) - 1)) dS_api_Entry).Version))) else some b)

def m_cmp_isNaN_int__3 (F : Nat) (a0 : Int) : Option (Bool) :=
  some (a0 != a0)

def m_cmp_Compare_int__2 (F : Nat) (a0 : Int) (a1 : Int) : Option (Int) :=
  (m_cmp_isNaN_int__3 F a0).bind (fun y3 => (m_cmp_isNaN_int__3 F a1).bind (fun y6 => (bif y3 then (bif y6 then some 0 else some (-1)) else (bif y6 then some 1 else (bif decide (a0 < a1) then some (-1) else (bif decide (a0 > a1) then some 1 else some 0))))))

def m_pglog_Cmp_2 (F : Nat) (a0 : S_api_Version) (a1 : S_api_Version) : Option (Int) :=
  (m_cmp_Compare_int__2 F a0.Epoch a1.Epoch).bind (fun y3 => (bif y3 != 0 then some y3 else (m_cmp_Compare_int__2 F a0.N a1.N).bind (fun y9 => some y9)))

def m_pglog_Copy_4 (F : Nat) (e : Int) (d : S_api_Version) (c : List S_api_Entry) (a : List S_api_Last) (b : List S_api_Item) : Option (Int × S_api_Version × List S_api_Entry × List S_api_Last × List S_api_Item) :=
  grd (App c.length 64) (grd (App a.length 40) (grd (App b.length 40) (some (e, d, c, a, b))))

def m_pglog_Find_2 (F : Nat) (g : Int) (d : S_api_Version) (h : List S_api_Entry) (c : List S_api_Last) (a : List S_api_Item) (a1 : ByteArray) : Option (S_api_Item × Bool) :=
  grd (Len a.length) (loopL (fun (e : Unit → Option (S_api_Item × Bool)) (b : Nat) (f : S_api_Item) (_ : Unit) => (bif f.Name.toList == a1.toList then some (f, true) else e ())) (fun (b : Nat) (_ : Unit) => some ((S_api_Item.mk (ByteArray.mk #[]) (S_api_Version.mk 0 0) 0), false)) a 0 ())

def m_place_Good_2 (F : Nat) (a0 : ByteArray) : Option (Bool) :=
  grd ((a0.size : Int) ≤ 9223372036854775807) (loopC (fun (c : Unit → Option (Bool)) (a : Nat) (_ : Unit) => grd (a < a0.size) (jn (fun (b : Bool) => (bif b then some false else c ())) (fun (d : Bool → Option (Bool)) => (bif decide ((((a0.data.getD a 0).toNat : Nat) : Int) < 33) then d (decide ((((a0.data.getD a 0).toNat : Nat) : Int) < 33)) else d (decide ((((a0.data.getD a 0).toNat : Nat) : Int) > 126)))))) (fun (a : Nat) (_ : Unit) => (bif !(a0.toList == (ByteArray.mk #[]).toList) then some (decide ((a0.size : Int) ≤ 64)) else some false)) (Int.toNat ((a0.size : Int) - (0 : Int))) 0 ())

def m_pglog_lastClient (F : Nat) (a0 : S_api_Last) : Option (Int) :=
  some a0.Client

def m_pglog_look_api_Last_int__1 (F : Nat) (a0 : S_api_Last) (a1 : Int) : Option (Int) :=
  (m_pglog_lastClient F a0).bind (fun y3 => (m_cmp_Compare_int__2 F y3 a1).bind (fun y5 => some y5))

def m_slices_BinarySearchFunc___api_Last_api_Last_int__2 (F : Nat) (a0 : List S_api_Last) (a1 : Int) : Option (Int × Bool) :=
  loopW (fun (c : Int × Int → Option (Int × Bool)) (d : Int × Int) => match d with | (a, b) => (bif decide (a < b) then grd (I64 (a + b)) (grd (Ix (IntKind.i64.wrap (Int.fdiv (IntKind.u64.wrap (a + b)) (2 ^ 1))) a0.length) ((m_pglog_look_api_Last_int__1 F (a0.getD (Int.toNat (IntKind.i64.wrap (Int.fdiv (IntKind.u64.wrap (a + b)) (2 ^ 1)))) dS_api_Last) a1).bind (fun e => (bif decide (e < 0) then grd (I64 ((IntKind.i64.wrap (Int.fdiv (IntKind.u64.wrap (a + b)) (2 ^ 1))) + 1)) (c (((IntKind.i64.wrap (Int.fdiv (IntKind.u64.wrap (a + b)) (2 ^ 1))) + 1), b)) else c (a, (IntKind.i64.wrap (Int.fdiv (IntKind.u64.wrap (a + b)) (2 ^ 1)))))))) else (bif decide (a < (a0.length : Int)) then grd (Ix a a0.length) ((m_pglog_look_api_Last_int__1 F (a0.getD (Int.toNat a) dS_api_Last) a1).bind (fun f => some (a, (f == 0)))) else some (a, false)))) F (0, (a0.length : Int))

def m_pglog_look_api_Last_int__2 (F : Nat) (a0 : List S_api_Last) (a2 : Int) : Option (Int × Bool) :=
  (m_slices_BinarySearchFunc___api_Last_api_Last_int__2 F a0 a2).bind (fun y3 => some (y3.1, y3.2))

def m_pglog_itemName (F : Nat) (a0 : S_api_Item) : Option (ByteArray) :=
  some a0.Name

def m_cmp_isNaN_string_ (F : Nat) (a0 : ByteArray) : Option (Bool) :=
  some (!(a0.toList == a0.toList))

def m_cmp_Compare_string_ (F : Nat) (a0 : ByteArray) (a1 : ByteArray) : Option (Int) :=
  (m_cmp_isNaN_string_ F a0).bind (fun y3 => (m_cmp_isNaN_string_ F a1).bind (fun y6 => (bif y3 then (bif y6 then some 0 else some (-1)) else (bif y6 then some 1 else (bif Op.bytesLess a0.toList a1.toList then some (-1) else (bif !(Op.bytesLess a0.toList a1.toList || a0.toList == a1.toList) then some 1 else some 0))))))

def m_pglog_look_api_Item_string__1 (F : Nat) (a0 : S_api_Item) (a1 : ByteArray) : Option (Int) :=
  (m_pglog_itemName F a0).bind (fun y3 => (m_cmp_Compare_string_ F y3 a1).bind (fun y5 => some y5))

def m_slices_BinarySearchFunc___api_Item_api_Item_string__2 (F : Nat) (a0 : List S_api_Item) (a1 : ByteArray) : Option (Int × Bool) :=
  loopW (fun (c : Int × Int → Option (Int × Bool)) (d : Int × Int) => match d with | (a, b) => (bif decide (a < b) then grd (I64 (a + b)) (grd (Ix (IntKind.i64.wrap (Int.fdiv (IntKind.u64.wrap (a + b)) (2 ^ 1))) a0.length) ((m_pglog_look_api_Item_string__1 F (a0.getD (Int.toNat (IntKind.i64.wrap (Int.fdiv (IntKind.u64.wrap (a + b)) (2 ^ 1)))) dS_api_Item) a1).bind (fun e => (bif decide (e < 0) then grd (I64 ((IntKind.i64.wrap (Int.fdiv (IntKind.u64.wrap (a + b)) (2 ^ 1))) + 1)) (c (((IntKind.i64.wrap (Int.fdiv (IntKind.u64.wrap (a + b)) (2 ^ 1))) + 1), b)) else c (a, (IntKind.i64.wrap (Int.fdiv (IntKind.u64.wrap (a + b)) (2 ^ 1)))))))) else (bif decide (a < (a0.length : Int)) then grd (Ix a a0.length) ((m_pglog_look_api_Item_string__1 F (a0.getD (Int.toNat a) dS_api_Item) a1).bind (fun f => some (a, (f == 0)))) else some (a, false)))) F (0, (a0.length : Int))

def m_pglog_look_api_Item_string__2 (F : Nat) (a0 : List S_api_Item) (a2 : ByteArray) : Option (Int × Bool) :=
  (m_slices_BinarySearchFunc___api_Item_api_Item_string__2 F a0 a2).bind (fun y3 => some (y3.1, y3.2))

def m_slices_Delete___api_Item_api_Item_ (F : Nat) (a0 : List S_api_Item) (a1 : Int) (a2 : Int) : Option (List S_api_Item) :=
  grd (Bd a2 a0.length) (grd (Bd a1 (Int.toNat a2)) ((bif a1 == a2 then some a0 else grd (Bd a1 a0.length) (grd (App ((Int.toNat a1) + (a0.length - (Int.toNat a2))) 40) (grd ((Int.toNat a1) ≤ (Int.toNat a2)) (grd ((a0.take (Int.toNat a1) ++ a0.drop (Int.toNat a2)).length ≤ a0.length) (some (a0.take (Int.toNat a1) ++ a0.drop (Int.toNat a2)))))))))

def m_pglog_Append_2 (F : Nat) (f : Int) (d : S_api_Version) (g : List S_api_Entry) (c : List S_api_Last) (b : List S_api_Item) (a1 : S_api_Entry) (a2 : Int) : Option (Int × S_api_Version × List S_api_Entry × List S_api_Last × List S_api_Item × Int) :=
  (m_pglog_Find_2 F f d g c b a1.Name).bind (fun y3 => jn (fun (l : Bool) => (bif l then some (0, (S_api_Version.mk 0 0), ([] : List S_api_Entry), ([] : List S_api_Last), ([] : List S_api_Item), 22) else (m_place_Good_2 F a1.Name).bind (fun q => (bif !q then some (0, (S_api_Version.mk 0 0), ([] : List S_api_Entry), ([] : List S_api_Last), ([] : List S_api_Item), 36) else jn (fun (m : Bool) => (bif m then some (0, (S_api_Version.mk 0 0), ([] : List S_api_Entry), ([] : List S_api_Last), ([] : List S_api_Item), 28) else (m_pglog_Copy_4 F f d g c b).bind (fun a => grd (App (a.2.2.1.length + [a1].length) 64) ((m_pglog_look_api_Last_int__2 F a.2.2.2.1 a1.Client).bind (fun i => jn (fun (h : List S_api_Last) => (bif a1.Errno != 0 then some (a.1, (S_api_Version.mk a.2.1.Epoch a.2.1.N), (a.2.2.1 ++ [a1]), h, a.2.2.2.2, 0) else (m_pglog_look_api_Item_string__2 F a.2.2.2.2 a1.Name).bind (fun e => jn (fun (j : Bool) => (bif j then grd (I64 (e.1 + 1)) ((m_slices_Delete___api_Item_api_Item_ F a.2.2.2.2 e.1 (e.1 + 1)).bind (fun r => some (a.1, (S_api_Version.mk a.2.1.Epoch a.2.1.N), (a.2.2.1 ++ [a1]), h, r, 0))) else (bif a1.Remove then some (a.1, (S_api_Version.mk a.2.1.Epoch a.2.1.N), (a.2.2.1 ++ [a1]), h, a.2.2.2.2, 0) else (bif e.2 then grd (Ix e.1 a.2.2.2.2.length) (some (a.1, (S_api_Version.mk a.2.1.Epoch a.2.1.N), (a.2.2.1 ++ [a1]), h, (a.2.2.2.2.set (Int.toNat e.1) (S_api_Item.mk a1.Name (S_api_Version.mk a1.Version.Epoch a1.Version.N) a2)), 0)) else grd ([(S_api_Item.mk a1.Name (S_api_Version.mk a1.Version.Epoch a1.Version.N) a2)].length = 1) (grd (0 ≤ e.1) (grd (Int.toNat e.1 ≤ a.2.2.2.2.length) (grd (App (a.2.2.2.2.length + 1) 40) (some (a.1, (S_api_Version.mk a.2.1.Epoch a.2.1.N), (a.2.2.1 ++ [a1]), h, (a.2.2.2.2.take (Int.toNat e.1) ++ ([(S_api_Item.mk a1.Name (S_api_Version.mk a1.Version.Epoch a1.Version.N) a2)] ++ a.2.2.2.2.drop (Int.toNat e.1))), 0))))))))) (fun (o : Bool → Option (Int × S_api_Version × List S_api_Entry × List S_api_Last × List S_api_Item × Int)) => (bif a1.Remove then o e.2 else o false))))) (fun (p : List S_api_Last → Option (Int × S_api_Version × List S_api_Entry × List S_api_Last × List S_api_Item × Int)) => (bif i.2 then grd (Ix i.1 a.2.2.2.1.length) (p (a.2.2.2.1.set (Int.toNat i.1) (S_api_Last.mk a1.Client a1.Number a1.Errno a1.Version))) else grd ([(S_api_Last.mk a1.Client a1.Number a1.Errno a1.Version)].length = 1) (grd (0 ≤ i.1) (grd (Int.toNat i.1 ≤ a.2.2.2.1.length) (grd (App (a.2.2.2.1.length + 1) 40) (p (a.2.2.2.1.take (Int.toNat i.1) ++ ([(S_api_Last.mk a1.Client a1.Number a1.Errno a1.Version)] ++ a.2.2.2.1.drop (Int.toNat i.1)))))))))))))) (fun (k : Bool → Option (Int × S_api_Version × List S_api_Entry × List S_api_Last × List S_api_Item × Int)) => (bif a1.Errno == 0 then (bif !a1.Remove then (bif !y3.2 then k (decide ((b.length : Int) ≥ 32)) else k false) else k false) else k false)))))) (fun (n : Bool → Option (Int × S_api_Version × List S_api_Entry × List S_api_Last × List S_api_Item × Int)) => (m_pglog_Head_2 F f d g c b).bind (fun y6 => (m_pglog_Cmp_2 F a1.Version y6).bind (fun y8 => (bif decide (y8 ≤ 0) then n true else (bif decide (a1.Client < 0) then n true else n (decide (a1.Number < 0))))))))

def m_pglog_Trim_2 (F : Nat) (d : Int) (c : S_api_Version) (e : List S_api_Entry) (a : List S_api_Last) (b : List S_api_Item) (a1 : Int) : Option (Int × S_api_Version × List S_api_Entry × List S_api_Last × List S_api_Item) :=
  (m_pglog_Copy_4 F d c e a b).bind (fun y3 => grd (I64 ((y3.2.2.1.length : Int) - (if 0 > a1 then 0 else a1))) ((bif decide (((y3.2.2.1.length : Int) - (if 0 > a1 then 0 else a1)) > 0) then grd (I64 (((y3.2.2.1.length : Int) - (if 0 > a1 then 0 else a1)) - 1)) (grd (Ix (((y3.2.2.1.length : Int) - (if 0 > a1 then 0 else a1)) - 1) y3.2.2.1.length) (grd (Bd ((y3.2.2.1.length : Int) - (if 0 > a1 then 0 else a1)) y3.2.2.1.length) (grd (App ((y3.2.2.1.drop (Int.toNat ((y3.2.2.1.length : Int) - (if 0 > a1 then 0 else a1)))).take (y3.2.2.1.length - (Int.toNat ((y3.2.2.1.length : Int) - (if 0 > a1 then 0 else a1))))).length 64) (some (y3.1, ((y3.2.2.1.getD (Int.toNat (((y3.2.2.1.length : Int) - (if 0 > a1 then 0 else a1)) - 1)) dS_api_Entry).Version), ((y3.2.2.1.drop (Int.toNat ((y3.2.2.1.length : Int) - (if 0 > a1 then 0 else a1)))).take (y3.2.2.1.length - (Int.toNat ((y3.2.2.1.length : Int) - (if 0 > a1 then 0 else a1))))), y3.2.2.2.1, y3.2.2.2.2))))) else some (y3.1, y3.2.1, y3.2.2.1, y3.2.2.2.1, y3.2.2.2.2))))

def m_primary_Take (F : Nat) (d : Int) (c : S_api_Version) (e : List S_api_Entry) (a : List S_api_Last) (b : List S_api_Item) (a1 : S_api_Entry) (a2 : Int) : Option (Int × S_api_Version × List S_api_Entry × List S_api_Last × List S_api_Item × Int) :=
  (m_pglog_Head_2 F d c e a b).bind (fun y3 => (m_pglog_Cmp_2 F a1.Version y3).bind (fun y6 => (bif decide (y6 ≤ 0) then (m_pglog_Copy_4 F d c e a b).bind (fun g => some (g.1, g.2.1, g.2.2.1, g.2.2.2.1, g.2.2.2.2, 0)) else (bif (IntKind.i64.wrap (a1.Version.N - 1)) != y3.N then (m_pglog_Copy_4 F d c e a b).bind (fun h => some (h.1, h.2.1, h.2.2.1, h.2.2.2.1, h.2.2.2.2, (-1))) else (m_pglog_Append_2 F d c e a b a1 a2).bind (fun f => (bif f.2.2.2.2.2 != 0 then (m_pglog_Copy_4 F d c e a b).bind (fun i => some (i.1, i.2.1, i.2.2.1, i.2.2.2.1, i.2.2.2.2, (-1))) else (m_pglog_Trim_2 F f.1 f.2.1 f.2.2.1 f.2.2.2.1 f.2.2.2.2.1 32).bind (fun j => some (j.1, j.2.1, j.2.2.1, j.2.2.2.1, j.2.2.2.2, 1))))))))

def m_tholeref13_Head (F : Nat) (e : Int) (b : S_api_Version) (a : List S_api_Entry) (c : List S_api_Last) (d : List S_api_Item) : Option (S_api_Version) :=
  (bif (a.length : Int) == 0 then some b else grd (I64 ((a.length : Int) - 1)) (grd (Ix ((a.length : Int) - 1) a.length) (some ((a.getD (Int.toNat ((a.length : Int) - 1)) dS_api_Entry).Version))))

def m_tholeref13_Find (F : Nat) (g : Int) (d : S_api_Version) (h : List S_api_Entry) (c : List S_api_Last) (a : List S_api_Item) (a1 : ByteArray) : Option (S_api_Item × Bool) :=
  grd (Len a.length) (loopL (fun (e : Unit → Option (S_api_Item × Bool)) (b : Nat) (f : S_api_Item) (_ : Unit) => (bif f.Name.toList == a1.toList then some (f, true) else e ())) (fun (b : Nat) (_ : Unit) => some ((S_api_Item.mk (ByteArray.mk #[]) (S_api_Version.mk 0 0) 0), false)) a 0 ())

def m_tholeref13_Append (F : Nat) (j : Int) (e : S_api_Version) (d : List S_api_Entry) (f : List S_api_Last) (b : List S_api_Item) (a1 : S_api_Entry) (a2 : Int) : Option (Int × S_api_Version × List S_api_Entry × List S_api_Last × List S_api_Item × Int) :=
  jn (fun (A : Bool) => (bif A then some (0, (S_api_Version.mk 0 0), ([] : List S_api_Entry), ([] : List S_api_Last), ([] : List S_api_Item), 22) else (m_tholeref09_Good F a1.Name).bind (fun L => (bif !L then some (0, (S_api_Version.mk 0 0), ([] : List S_api_Entry), ([] : List S_api_Last), ([] : List S_api_Item), 36) else (m_tholeref13_Find F j e d f b a1.Name).bind (fun M => jn (fun (B : Bool) => (bif B then some (0, (S_api_Version.mk 0 0), ([] : List S_api_Entry), ([] : List S_api_Last), ([] : List S_api_Item), 28) else grd (App (([] : List S_api_Entry).length + d.length) 64) (grd (App ((([] : List S_api_Entry) ++ d).length + [a1].length) 64) (grd (Len f.length) (loopL (fun (p : Bool × List S_api_Last → Option (Int × S_api_Version × List S_api_Entry × List S_api_Last × List S_api_Item × Int)) (C : Nat) (u : S_api_Last) (D : Bool × List S_api_Last) => match D with | (l, c) => jn (fun (q : Bool) => jn (fun (E : Bool × List S_api_Last) => match E with | (m, g) => (bif u.Client != a1.Client then grd (App (g.length + [u].length) 40) (p (m, (g ++ [u]))) else p (m, g))) (fun (w : Bool × List S_api_Last → Option (Int × S_api_Version × List S_api_Entry × List S_api_Last × List S_api_Item × Int)) => (bif q then grd (App (c.length + [(S_api_Last.mk a1.Client a1.Number a1.Errno a1.Version)].length) 40) (w (true, (c ++ [(S_api_Last.mk a1.Client a1.Number a1.Errno a1.Version)]))) else w (l, c)))) (fun (G : Bool → Option (Int × S_api_Version × List S_api_Entry × List S_api_Last × List S_api_Item × Int)) => (bif !l then G (decide (u.Client ≥ a1.Client)) else G false))) (fun (C : Nat) (H : Bool × List S_api_Last) => match H with | (l, c) => jn (fun (h : List S_api_Last) => (bif a1.Errno != 0 then grd (App (([] : List S_api_Item).length + b.length) 40) (some (j, e, ((([] : List S_api_Entry) ++ d) ++ [a1]), h, (([] : List S_api_Item) ++ b), 0)) else grd (Len b.length) (loopL (fun (r : Bool × List S_api_Item → Option (Int × S_api_Version × List S_api_Entry × List S_api_Last × List S_api_Item × Int)) (s : Nat) (n : S_api_Item) (I : Bool × List S_api_Item) => match I with | (k, a) => jn (fun (t : Bool) => jn (fun (J : Bool × List S_api_Item) => match J with | (o, i) => (bif !(n.Name.toList == a1.Name.toList) then grd (App (i.length + [n].length) 40) (r (o, (i ++ [n]))) else r (o, i))) (fun (x : Bool × List S_api_Item → Option (Int × S_api_Version × List S_api_Entry × List S_api_Last × List S_api_Item × Int)) => (bif t then grd (App (a.length + [(S_api_Item.mk a1.Name a1.Version a2)].length) 40) (x (true, (a ++ [(S_api_Item.mk a1.Name a1.Version a2)]))) else x (k, a)))) (fun (y : Bool → Option (Int × S_api_Version × List S_api_Entry × List S_api_Last × List S_api_Item × Int)) => (bif !k then y (!(Op.bytesLess n.Name.toList a1.Name.toList)) else y false))) (fun (s : Nat) (K : Bool × List S_api_Item) => match K with | (k, a) => (bif !k then grd (App (a.length + [(S_api_Item.mk a1.Name a1.Version a2)].length) 40) (some (j, e, ((([] : List S_api_Entry) ++ d) ++ [a1]), h, (a ++ [(S_api_Item.mk a1.Name a1.Version a2)]), 0)) else some (j, e, ((([] : List S_api_Entry) ++ d) ++ [a1]), h, a, 0))) b 0 (a1.Remove, ([] : List S_api_Item))))) (fun (z : List S_api_Last → Option (Int × S_api_Version × List S_api_Entry × List S_api_Last × List S_api_Item × Int)) => (bif !l then grd (App (c.length + [(S_api_Last.mk a1.Client a1.Number a1.Errno a1.Version)].length) 40) (z (c ++ [(S_api_Last.mk a1.Client a1.Number a1.Errno a1.Version)])) else z c))) f 0 (false, ([] : List S_api_Last))))))) (fun (v : Bool → Option (Int × S_api_Version × List S_api_Entry × List S_api_Last × List S_api_Item × Int)) => (bif a1.Errno == 0 then (bif !a1.Remove then (bif !M.2 then v (decide ((b.length : Int) ≥ 32)) else v false) else v false) else v false))))))) (fun (J9 : Bool → Option (Int × S_api_Version × List S_api_Entry × List S_api_Last × List S_api_Item × Int)) => (m_tholeref13_Head F j e d f b).bind (fun y3 => (m_tholeref13_Cmp F a1.Version y3).bind (fun y5 => (bif decide (y5 ≤ 0) then J9 true else (bif decide (a1.Client < 0) then J9 true else J9 (decide (a1.Number < 0)))))))

def m_tholeref13_Copy (F : Nat) (e : Int) (d : S_api_Version) (c : List S_api_Entry) (a : List S_api_Last) (b : List S_api_Item) : Option (Int × S_api_Version × List S_api_Entry × List S_api_Last × List S_api_Item) :=
  grd (App (([] : List S_api_Entry).length + c.length) 64) (grd (App (([] : List S_api_Last).length + a.length) 40) (grd (App (([] : List S_api_Item).length + b.length) 40) (some (e, d, (([] : List S_api_Entry) ++ c), (([] : List S_api_Last) ++ a), (([] : List S_api_Item) ++ b)))))

def m_tholeref13_Trim (F : Nat) (e : Int) (d : S_api_Version) (f : List S_api_Entry) (b : List S_api_Last) (c : List S_api_Item) (a1 : Int) : Option (Int × S_api_Version × List S_api_Entry × List S_api_Last × List S_api_Item) :=
  jn (fun (i : Int) => (m_tholeref13_Copy F e d f b c).bind (fun y9 => loopW (fun (j : Int × Int × List S_api_Entry → Option (Int × S_api_Version × List S_api_Entry × List S_api_Last × List S_api_Item)) (k : Int × Int × List S_api_Entry) => match k with | (g, h, a) => (bif decide ((a.length : Int) > i) then grd (0 < a.length) (grd (1 ≤ a.length) (j ((((a.getD 0 dS_api_Entry).Version).Epoch), (((a.getD 0 dS_api_Entry).Version).N), ((a.drop 1).take (a.length - 1))))) else some (y9.1, (S_api_Version.mk g h), a, y9.2.2.2.1, y9.2.2.2.2))) F (y9.2.1.Epoch, y9.2.1.N, y9.2.2.1))) (fun (J5 : Int → Option (Int × S_api_Version × List S_api_Entry × List S_api_Last × List S_api_Item)) => (bif decide (a1 < 0) then J5 0 else J5 a1))

def m_tholeref18_Take (F : Nat) (d : Int) (c : S_api_Version) (e : List S_api_Entry) (a : List S_api_Last) (b : List S_api_Item) (a1 : S_api_Entry) (a2 : Int) : Option (Int × S_api_Version × List S_api_Entry × List S_api_Last × List S_api_Item × Int) :=
  (m_tholeref13_Head F d c e a b).bind (fun y3 => (m_tholeref13_Cmp F a1.Version y3).bind (fun y6 => (bif decide (y6 ≤ 0) then some (d, c, e, a, b, 0) else (bif a1.Version.N != (IntKind.i64.wrap (y3.N + 1)) then some (d, c, e, a, b, (-1)) else (m_tholeref13_Append F d c e a b a1 a2).bind (fun f => (bif f.2.2.2.2.2 != 0 then some (d, c, e, a, b, (-1)) else (m_tholeref13_Trim F f.1 f.2.1 f.2.2.1 f.2.2.2.1 f.2.2.2.2.1 32).bind (fun g => some (g.1, g.2.1, g.2.2.1, g.2.2.2.1, g.2.2.2.2, 1))))))))

def m_tholeref13_Same (F : Nat) (l : Int) (j : S_api_Version) (e : List S_api_Entry) (a : List S_api_Last) (b : List S_api_Item) (m : Int) (k : S_api_Version) (f : List S_api_Entry) (c : List S_api_Last) (d : List S_api_Item) : Option (Bool) :=
  jn (fun (n : Bool) => (bif n then some false else grd (Len e.length) (loopL (fun (p : Unit → Option (Bool)) (g : Nat) (s : S_api_Entry) (_ : Unit) => grd (g < f.length) ((bif !(S_api_Entry.beq s (f.getD g dS_api_Entry)) then some false else p ()))) (fun (g : Nat) (_ : Unit) => grd (Len a.length) (loopL (fun (q : Unit → Option (Bool)) (h : Nat) (t : S_api_Last) (_ : Unit) => grd (h < c.length) ((bif !(S_api_Last.beq t (c.getD h dS_api_Last)) then some false else q ()))) (fun (h : Nat) (_ : Unit) => grd (Len b.length) (loopL (fun (o : Unit → Option (Bool)) (i : Nat) (r : S_api_Item) (_ : Unit) => grd (i < d.length) ((bif !(S_api_Item.beq r (d.getD i dS_api_Item)) then some false else o ()))) (fun (i : Nat) (_ : Unit) => some true) b 0 ())) a 0 ())) e 0 ()))) (fun (J7 : Bool → Option (Bool)) => (bif l != m then J7 true else (bif !(S_api_Version.beq j k) then J7 true else (bif (e.length : Int) != (f.length : Int) then J7 true else (bif (a.length : Int) != (c.length : Int) then J7 true else J7 ((b.length : Int) != (d.length : Int)))))))

def m_primary_Verdict_2 (F : Nat) (h : Int) (f : S_api_Version) (i : List S_api_Entry) (e : List S_api_Last) (b : List S_api_Item) (a : Int) (c : ByteArray) (g : List UInt8) (d : S_api_Version) : Option (Int) :=
  (m_pglog_Find_2 F h f i e b c).bind (fun y3 => jn (fun (o : Bool) => jn (fun (j : Bool) => (bif j then (m_place_Good_2 F c).bind (fun s => (bif !s then some 36 else (bif decide ((g.length : Int) > 4096) then some 27 else jn (fun (k : Bool) => (bif k then some 2 else jn (fun (l : Bool) => (bif l then some 126 else jn (fun (m : Bool) => (bif m then some 28 else some 0)) (fun (p : Bool → Option (Int)) => (bif a != 3 then p o else p false)))) (fun (q : Bool → Option (Int)) => (bif a == 4 then q (!(S_api_Version.beq y3.1.Version d)) else q false)))) (fun (r : Bool → Option (Int)) => (bif a == 3 then r (!y3.2) else r false))))) else some 22)) (fun (n : Bool → Option (Int)) => (bif a == 2 then n (a == 2) else (bif a == 3 then n (a == 3) else n (a == 4))))) (fun (J7 : Bool → Option (Int)) => (bif !y3.2 then J7 (decide ((b.length : Int) ≥ 32)) else J7 false)))

def m_tholeref18_Verdict (F : Nat) (h : Int) (f : S_api_Version) (i : List S_api_Entry) (e : List S_api_Last) (b : List S_api_Item) (a : Int) (c : ByteArray) (g : List UInt8) (d : S_api_Version) : Option (Int) :=
  jn (fun (j : Bool) => (bif j then some 22 else (m_tholeref09_Good F c).bind (fun p => (bif !p then some 36 else (bif decide ((g.length : Int) > 4096) then some 27 else (m_tholeref13_Find F h f i e b c).bind (fun k => (bif a == 3 then (bif !k.2 then some 2 else some 0) else jn (fun (l : Bool) => (bif l then some 126 else jn (fun (m : Bool) => (bif m then some 28 else some 0)) (fun (n : Bool → Option (Int)) => (bif !k.2 then n (decide ((b.length : Int) ≥ 32)) else n false)))) (fun (o : Bool → Option (Int)) => (bif a == 4 then o (!(S_api_Version.beq k.1.Version d)) else o false))))))))) (fun (J4 : Bool → Option (Int)) => (bif a != 2 then (bif a != 3 then J4 (a != 4) else J4 false) else J4 false))

def m_primary_Next_2 (F : Nat) (d : Int) (c : S_api_Version) (e : List S_api_Entry) (a : List S_api_Last) (b : List S_api_Item) (a1 : Int) : Option (S_api_Version) :=
  (m_pglog_Head_2 F d c e a b).bind (fun y3 => some (S_api_Version.mk a1 (IntKind.i64.wrap (y3.N + 1))))

def m_tholeref18_Next (F : Nat) (d : Int) (c : S_api_Version) (e : List S_api_Entry) (a : List S_api_Last) (b : List S_api_Item) (a1 : Int) : Option (S_api_Version) :=
  (m_tholeref13_Head F d c e a b).bind (fun y3 => some (S_api_Version.mk a1 (IntKind.i64.wrap (y3.N + 1))))

def m_tholelaw18_PrimaryTakes (F : Nat) (d : Int) (c : S_api_Version) (e : List S_api_Entry) (a : List S_api_Last) (b : List S_api_Item) (a1 : S_api_Entry) (g : Int) (h : ByteArray) (i : List UInt8) (f : S_api_Version) : Option (Bool) :=
  (m_tholeref13_Check F d c e a b).bind (fun y3 => (bif y3 != 0 then (m_tholelaw18_lives F).bind (fun y7 => some true) else (m_primary_Take F d c e a b a1 7).bind (fun j => (m_tholeref18_Take F d c e a b a1 7).bind (fun k => (bif j.2.2.2.2.2 == k.2.2.2.2.2 then (m_tholeref13_Same F j.1 j.2.1 j.2.2.1 j.2.2.2.1 j.2.2.2.2.1 k.1 k.2.1 k.2.2.1 k.2.2.2.1 k.2.2.2.2.1).bind (fun l => (bif l then (m_primary_Verdict_2 F d c e a b g h i f).bind (fun m => (m_tholeref18_Verdict F d c e a b g h i f).bind (fun n => (bif m == n then (m_primary_Next_2 F d c e a b a1.Client).bind (fun o => (m_tholeref18_Next F d c e a b a1.Client).bind (fun p => (bif S_api_Version.beq o p then (m_tholelaw18_lives F).bind (fun q => some true) else some false))) else some false))) else some false)) else some false)))))

end Go.Proofs.YtjnbkhnebmlilaaGreat
