/-
  CHAPTER 18r: the models of its functions.
-/
import Derived.Test.YtjnbkhnebmlilaaProg
import Derived.Test.YtjnbkhnebmlilaaGxm
set_option linter.unusedVariables false
set_option linter.unusedSimpArgs false
set_option maxRecDepth 100000
namespace Go.Proofs.Ytjnbkhnebmlilaa
open Go Go.RowKit Sx

structure S_api_Pg where
  Pool : Int
  Seed : Int
def S_api_Pg.row (x : S_api_Pg) : List Value := [.int .i64 x.Pool, .int .i64 x.Seed]
def S_api_Pg.beq (x y : S_api_Pg) : Bool := (x.Pool == y.Pool) && ((x.Seed == y.Seed) && true)
theorem S_api_Pg.beq_iff (x y : S_api_Pg) : S_api_Pg.beq x y = true ↔ x = y := by
  cases x; cases y; simp [S_api_Pg.beq, str_beq]

structure S_api_Version where
  Epoch : Int
  N : Int
def S_api_Version.row (x : S_api_Version) : List Value := [.int .i64 x.Epoch, .int .i64 x.N]
def dS_api_Version : S_api_Version := S_api_Version.mk 0 0
def S_api_Version.beq (x y : S_api_Version) : Bool := (x.Epoch == y.Epoch) && ((x.N == y.N) && true)
theorem S_api_Version.beq_iff (x y : S_api_Version) : S_api_Version.beq x y = true ↔ x = y := by
  cases x; cases y; simp [S_api_Version.beq, str_beq]

structure S_api_Entry where
  Version : S_api_Version
  Remove : Bool
  Errno : Int
  Name : ByteArray
  Client : Int
  Number : Int
def S_api_Entry.row (x : S_api_Entry) : List Value := [.int .i64 x.Version.Epoch, .int .i64 x.Version.N, .bool x.Remove, .int .i64 x.Errno, .string x.Name, .int .i64 x.Client, .int .i64 x.Number]
def S_api_Entry.beq (x y : S_api_Entry) : Bool := (S_api_Version.beq x.Version y.Version) && ((x.Remove == y.Remove) && ((x.Errno == y.Errno) && ((x.Name == y.Name) && ((x.Client == y.Client) && ((x.Number == y.Number) && true)))))
theorem S_api_Entry.beq_iff (x y : S_api_Entry) : S_api_Entry.beq x y = true ↔ x = y := by
  cases x; cases y; simp [S_api_Entry.beq, str_beq, S_api_Version.beq_iff]

structure S_api_Last where
  Client : Int
  Number : Int
  Errno : Int
  Version : S_api_Version
def S_api_Last.row (x : S_api_Last) : List Value := [.int .i64 x.Client, .int .i64 x.Number, .int .i64 x.Errno, .int .i64 x.Version.Epoch, .int .i64 x.Version.N]
def dS_api_Last : S_api_Last := S_api_Last.mk 0 0 0 dS_api_Version
def S_api_Last.beq (x y : S_api_Last) : Bool := (x.Client == y.Client) && ((x.Number == y.Number) && ((x.Errno == y.Errno) && ((S_api_Version.beq x.Version y.Version) && true)))
theorem S_api_Last.beq_iff (x y : S_api_Last) : S_api_Last.beq x y = true ↔ x = y := by
  cases x; cases y; simp [S_api_Last.beq, str_beq, S_api_Version.beq_iff]

structure S_api_Item where
  Name : ByteArray
  Version : S_api_Version
  Crc : Int
def S_api_Item.row (x : S_api_Item) : List Value := [.string x.Name, .int .i64 x.Version.Epoch, .int .i64 x.Version.N, .int .u32 x.Crc]
def dS_api_Item : S_api_Item := S_api_Item.mk (ByteArray.mk #[]) dS_api_Version 0
def S_api_Item.beq (x y : S_api_Item) : Bool := (x.Name == y.Name) && ((S_api_Version.beq x.Version y.Version) && ((x.Crc == y.Crc) && true))
theorem S_api_Item.beq_iff (x y : S_api_Item) : S_api_Item.beq x y = true ↔ x = y := by
  cases x; cases y; simp [S_api_Item.beq, str_beq, S_api_Version.beq_iff]

structure S_api_Node where
  Kind : Int
  Id : Int
def S_api_Node.row (x : S_api_Node) : List Value := [.int .i64 x.Kind, .int .i64 x.Id]
def S_api_Node.beq (x y : S_api_Node) : Bool := (x.Kind == y.Kind) && ((x.Id == y.Id) && true)
theorem S_api_Node.beq_iff (x y : S_api_Node) : S_api_Node.beq x y = true ↔ x = y := by
  cases x; cases y; simp [S_api_Node.beq, str_beq]

structure S_sync_noCopy where
def S_sync_noCopy.row (x : S_sync_noCopy) : List Value := []
def S_sync_noCopy.beq (x y : S_sync_noCopy) : Bool := true
theorem S_sync_noCopy.beq_iff (x y : S_sync_noCopy) : S_sync_noCopy.beq x y = true ↔ x = y := by
  cases x; cases y; simp [S_sync_noCopy.beq]

structure S_atomic_noCopy where
def S_atomic_noCopy.row (x : S_atomic_noCopy) : List Value := []
def S_atomic_noCopy.beq (x y : S_atomic_noCopy) : Bool := true
theorem S_atomic_noCopy.beq_iff (x y : S_atomic_noCopy) : S_atomic_noCopy.beq x y = true ↔ x = y := by
  cases x; cases y; simp [S_atomic_noCopy.beq]

structure S_atomic_Bool where
  __ : S_atomic_noCopy
  v : Int
def S_atomic_Bool.row (x : S_atomic_Bool) : List Value := [.int .u32 x.v]
def S_atomic_Bool.beq (x y : S_atomic_Bool) : Bool := (S_atomic_noCopy.beq x.__ y.__) && ((x.v == y.v) && true)
theorem S_atomic_Bool.beq_iff (x y : S_atomic_Bool) : S_atomic_Bool.beq x y = true ↔ x = y := by
  cases x; cases y; simp [S_atomic_Bool.beq, str_beq, S_atomic_noCopy.beq_iff]

structure S_sync_Mutex where
  state : Int
  sema : Int
def S_sync_Mutex.row (x : S_sync_Mutex) : List Value := [.int .i32 x.state, .int .u32 x.sema]
def S_sync_Mutex.beq (x y : S_sync_Mutex) : Bool := (x.state == y.state) && ((x.sema == y.sema) && true)
theorem S_sync_Mutex.beq_iff (x y : S_sync_Mutex) : S_sync_Mutex.beq x y = true ↔ x = y := by
  cases x; cases y; simp [S_sync_Mutex.beq, str_beq]

structure S_sync_Mutex' where
  __ : S_sync_noCopy
  mu : S_sync_Mutex
def S_sync_Mutex'.row (x : S_sync_Mutex') : List Value := [.int .i32 x.mu.state, .int .u32 x.mu.sema]
def S_sync_Mutex'.beq (x y : S_sync_Mutex') : Bool := (S_sync_noCopy.beq x.__ y.__) && ((S_sync_Mutex.beq x.mu y.mu) && true)
theorem S_sync_Mutex'.beq_iff (x y : S_sync_Mutex') : S_sync_Mutex'.beq x y = true ↔ x = y := by
  cases x; cases y; simp [S_sync_Mutex'.beq, str_beq, S_sync_noCopy.beq_iff, S_sync_Mutex.beq_iff]

structure S_sync_Once where
  __ : S_sync_noCopy
  done : S_atomic_Bool
  m : S_sync_Mutex'
def S_sync_Once.row (x : S_sync_Once) : List Value := [.int .u32 x.done.v, .int .i32 x.m.mu.state, .int .u32 x.m.mu.sema]
def S_sync_Once.beq (x y : S_sync_Once) : Bool := (S_sync_noCopy.beq x.__ y.__) && ((S_atomic_Bool.beq x.done y.done) && ((S_sync_Mutex'.beq x.m y.m) && true))
theorem S_sync_Once.beq_iff (x y : S_sync_Once) : S_sync_Once.beq x y = true ↔ x = y := by
  cases x; cases y; simp [S_sync_Once.beq, str_beq, S_sync_noCopy.beq_iff, S_atomic_Bool.beq_iff, S_sync_Mutex'.beq_iff]

structure S_atomic_align64 where
def S_atomic_align64.row (x : S_atomic_align64) : List Value := []
def S_atomic_align64.beq (x y : S_atomic_align64) : Bool := true
theorem S_atomic_align64.beq_iff (x y : S_atomic_align64) : S_atomic_align64.beq x y = true ↔ x = y := by
  cases x; cases y; simp [S_atomic_align64.beq]

structure S_atomic_Int64 where
  __ : S_atomic_noCopy
  __i : S_atomic_align64
  v : Int
def S_atomic_Int64.row (x : S_atomic_Int64) : List Value := [.int .i64 x.v]
def S_atomic_Int64.beq (x y : S_atomic_Int64) : Bool := (S_atomic_noCopy.beq x.__ y.__) && ((S_atomic_align64.beq x.__i y.__i) && ((x.v == y.v) && true))
theorem S_atomic_Int64.beq_iff (x y : S_atomic_Int64) : S_atomic_Int64.beq x y = true ↔ x = y := by
  cases x; cases y; simp [S_atomic_Int64.beq, str_beq, S_atomic_noCopy.beq_iff, S_atomic_align64.beq_iff]

structure S_digest_Engine where
  once : S_sync_Once
  table : List Int
  calls : S_atomic_Int64
def S_digest_Engine.row (x : S_digest_Engine) : List Value := ([.int .u32 x.once.done.v, .int .i32 x.once.m.mu.state, .int .u32 x.once.m.mu.sema] : List Value) ++ (aU32 x.table ++ (([.int .i64 x.calls.v] : List Value)))
def S_digest_Engine.beq (x y : S_digest_Engine) : Bool := (S_sync_Once.beq x.once y.once) && ((x.table == y.table) && ((S_atomic_Int64.beq x.calls y.calls) && true))
theorem S_digest_Engine.beq_iff (x y : S_digest_Engine) : S_digest_Engine.beq x y = true ↔ x = y := by
  cases x; cases y; simp [S_digest_Engine.beq, str_beq, S_sync_Once.beq_iff, S_atomic_Int64.beq_iff]

structure S_api_Msg_n where
  c0 : Int
  c1 : Int
  c2 : Int
  c3 : Int
  c4 : Int
  c5 : Int
  c6 : Int
  c7 : Int
  c8 : Int
  c9 : Int
  c10 : Int
  c11 : Int
  c15 : Int
  c16 : Int
  c17 : Int
  c18 : Int
  c19 : Int
  c20 : Int
  c21 : Int
  c22 : Int
  c23 : Int
  c27 : Int
  c28 : Int
  c29 : Bool
  c30 : Int
  c31 : ByteArray
  c32 : Int
  c33 : Int
  c34 : ByteArray
  c35 : Int
  c36 : Int
  c38 : Int
  c39 : ByteArray
  c41 : Int
  c42 : Int
  c45 : Int
def S_api_Msg_n.row (x : S_api_Msg_n) : List Value := [.int .i64 x.c0, .int .i64 x.c1, .int .i64 x.c2, .int .i64 x.c3, .int .i64 x.c4, .int .i64 x.c5, .int .i64 x.c6, .int .i64 x.c7, .int .i64 x.c8, .int .i64 x.c9, .int .i64 x.c10, .int .i64 x.c11, .slice none 0 0, .slice none 0 0, .slice none 0 0, .int .i64 x.c15, .int .i64 x.c16, .int .i64 x.c17, .int .i64 x.c18, .int .i64 x.c19, .int .i64 x.c20, .int .i64 x.c21, .int .i64 x.c22, .int .i64 x.c23, .slice none 0 0, .slice none 0 0, .slice none 0 0, .int .i64 x.c27, .int .i64 x.c28, .bool x.c29, .int .i64 x.c30, .string x.c31, .int .i64 x.c32, .int .i64 x.c33, .string x.c34, .int .i64 x.c35, .int .i64 x.c36, .slice none 0 0, .int .i64 x.c38, .string x.c39, .slice none 0 0, .int .i64 x.c41, .int .i64 x.c42, .slice none 0 0, .slice none 0 0, .int .i64 x.c45]
def dS_api_Msg_n : S_api_Msg_n := S_api_Msg_n.mk 0 0 0 0 0 0 0 0 0 0 0 0 0 0 0 0 0 0 0 0 0 0 0 false 0 (ByteArray.mk #[]) 0 0 (ByteArray.mk #[]) 0 0 0 (ByteArray.mk #[]) 0 0 0

@[reducible] def r3 (o : Option Addr) (l : List Int) : Ent := .rd o 1 (List.map rI l)
@[reducible] def o3 (o : Option Addr) (c : Nat) (l : List Int) : Ent := .osl o c 3 1 (List.map rI l)
@[reducible] def r9 (o : Option Addr) (l : List ByteArray) : Ent := .rd o 1 (List.map rS l)
@[reducible] def o9 (o : Option Addr) (c : Nat) (l : List ByteArray) : Ent := .osl o c 9 1 (List.map rS l)
@[reducible] def r52 (o : Option Addr) (l : List S_api_Entry) : Ent := .rd o 7 (List.map S_api_Entry.row l)
@[reducible] def o52 (o : Option Addr) (c : Nat) (l : List S_api_Entry) : Ent := .osl o c 52 7 (List.map S_api_Entry.row l)
@[reducible] def r57 (o : Option Addr) (l : List S_api_Msg_n) : Ent := .rd o 46 (List.map S_api_Msg_n.row l)
@[reducible] def o57 (o : Option Addr) (c : Nat) (l : List S_api_Msg_n) : Ent := .osl o c 57 46 (List.map S_api_Msg_n.row l)
@[reducible] def r62 (o : Option Addr) (l : List Int) : Ent := .rd o 1 (List.map rU64 l)
@[reducible] def r76 (o : Option Addr) (l : List S_api_Item) : Ent := .rd o 4 (List.map S_api_Item.row l)
@[reducible] def o76 (o : Option Addr) (c : Nat) (l : List S_api_Item) : Ent := .osl o c 76 4 (List.map S_api_Item.row l)
@[reducible] def r80 (o : Option Addr) (l : List S_api_Last) : Ent := .rd o 5 (List.map S_api_Last.row l)
@[reducible] def o80 (o : Option Addr) (c : Nat) (l : List S_api_Last) : Ent := .osl o c 80 5 (List.map S_api_Last.row l)

@[reducible] def kc0 (p0 : Int) (p1 : Int) (p2 : Int) (p3 : Int) (p4 : Int) (p5 : Option Addr) (p6 : Nat) (p7 : Nat) (p8 : Int) (p9 : Int) (p10 : Int) (p11 : Option Addr) (p12 : Nat) (p13 : Nat) (p14 : Option Addr) (p15 : Nat) (p16 : Nat) (p17 : Option Addr) (p18 : Nat) (p19 : Nat) : List Value := [.int .i64 p0, .int .i64 p1, .int .i64 p2, .int .i64 p3, .int .i64 p4, .slice p5 p6 p7, .int .i64 p8, .int .i64 p9, .int .i64 p10, .slice p11 p12 p13, .slice p14 p15 p16, .slice p17 p18 p19]
@[reducible] def kc1 : List Value := [.int .i64 3, .int .i64 0, .int .i64 0, .slice none 0 0, .slice none 0 0, .slice none 0 0]
@[reducible] def kc2 : List Value := [.int .i64 0, .int .i64 0, .int .i64 0, .slice none 0 0, .slice none 0 0, .slice none 0 0]
@[reducible] def kc3 (p0 : Option Addr) (p1 : Nat) : List Value := [.int .i64 3, .int .i64 0, .int .i64 0, .slice p0 0 p1, .slice none 0 0, .slice none 0 0]
@[reducible] def kc4 (p0 : Option Addr) (p1 : Nat) (p2 : Option Addr) (p3 : Nat) : List Value := [.int .i64 3, .int .i64 0, .int .i64 0, .slice p0 0 p1, .slice p2 0 p3, .slice none 0 0]
@[reducible] def kc5 (p0 : Option Addr) (p1 : Nat) (p2 : Option Addr) (p3 : Nat) (p4 : Option Addr) (p5 : Nat) : List Value := [.int .i64 3, .int .i64 0, .int .i64 0, .slice p0 0 p1, .slice p2 0 p3, .slice p4 0 p5]
@[reducible] def kc6 (p0 : Option Addr) (p1 : Nat) (p2 : Option Addr) (p3 : Nat) (p4 : Option Addr) (p5 : Nat) (p6 : Option Addr) (p7 : Nat) : List Value := [.int .i64 1, .int .i64 0, .int .i64 3, .int .i64 0, .int .i64 9, .slice p0 1 p1, .int .i64 3, .int .i64 0, .int .i64 0, .slice p2 0 p3, .slice p4 0 p5, .slice p6 0 p7, .slice none 0 0, .pointer none, .bool false, .int .i64 0, .bool true]
@[reducible] def kc7 (p0 : Option Addr) : List Value := [.int .i64 30, .int .i64 3, .int .i64 0, .int .i64 2, .int .i64 0, .int .i64 0, .int .i64 0, .int .i64 1, .int .i64 0, .int .i64 5, .int .i64 1, .int .i64 0, .slice none 0 0, .slice none 0 0, .slice none 0 0, .int .i64 0, .int .i64 0, .int .i64 0, .int .i64 0, .int .i64 0, .int .i64 0, .int .i64 0, .int .i64 0, .int .i64 0, .slice none 0 0, .slice none 0 0, .slice none 0 0, .int .i64 0, .int .i64 0, .bool false, .int .i64 0, .string (ByteArray.mk #[]), .int .i64 0, .int .i64 0, .string (ByteArray.mk #[]), .int .i64 0, .int .i64 0, .slice none 0 0, .int .i64 2, .string (ByteArray.mk #[97]), .slice p0 1 1, .int .i64 0, .int .i64 0, .slice none 0 0, .slice none 0 0, .int .i64 0]
@[reducible] def kc8 (p0 : Option Addr) (p1 : Nat) : List Value := [.int .i64 30, .int .i64 3, .int .i64 0, .int .i64 2, .int .i64 0, .int .i64 0, .int .i64 0, .int .i64 1, .int .i64 0, .int .i64 5, .int .i64 1, .int .i64 0, .slice none 0 0, .slice none 0 0, .slice none 0 0, .int .i64 0, .int .i64 0, .int .i64 0, .int .i64 0, .int .i64 0, .int .i64 0, .int .i64 0, .int .i64 0, .int .i64 0, .slice none 0 0, .slice none 0 0, .slice none 0 0, .int .i64 0, .int .i64 0, .bool false, .int .i64 0, .string (ByteArray.mk #[]), .int .i64 0, .int .i64 0, .string (ByteArray.mk #[]), .int .i64 0, .int .i64 0, .slice none 0 0, .int .i64 2, .string (ByteArray.mk #[97]), .slice p0 1 p1, .int .i64 0, .int .i64 0, .slice none 0 0, .slice none 0 0, .int .i64 0]
@[reducible] def kc9 : List Value := [.bool false, .int .i64 0, .int .i64 0, .int .i64 0, .slice none 0 0, .slice none 0 0, .slice none 0 0, .bool false, .string (ByteArray.mk #[]), .int .i64 0, .int .i64 0, .slice none 0 0, .bool false, .bool false, .string (ByteArray.mk #[]), .slice none 0 0]
@[reducible] def kc10 (p0 : Option Addr) (p1 : Nat) (p2 : Option Addr) (p3 : Nat) (p4 : Option Addr) (p5 : Nat) (p6 : Option Addr) (p7 : Nat) (p8 : Option Addr) (p9 : Nat) : List Value := [.int .i64 1, .int .i64 0, .int .i64 3, .int .i64 0, .int .i64 9, .slice p0 1 p1, .int .i64 3, .int .i64 0, .int .i64 0, .slice p2 0 p3, .slice p4 0 p5, .slice p6 0 p7, .slice p8 1 p9, .pointer none, .bool false, .int .i64 0, .bool true]
@[reducible] def kc11 (p0 : Option Addr) (p1 : Nat) (p2 : Option Addr) (p3 : Nat) (p4 : Option Addr) (p5 : Nat) (p6 : Option Addr) (p7 : Nat) (p8 : Option Addr) (p9 : Nat) : List Value := [.int .i64 1, .int .i64 0, .int .i64 3, .int .i64 0, .int .i64 9, .slice p0 1 p1, .int .i64 3, .int .i64 0, .int .i64 0, .slice p2 0 p3, .slice p4 0 p5, .slice p6 0 p7, .slice p8 0 p9, .pointer none, .bool false, .int .i64 0, .bool true]
@[reducible] def kc12 : List Value := [.int .i64 0, .int .i64 0, .int .i64 0, .int .i64 0, .int .i64 0]
@[reducible] def kc13 (p0 : Option Addr) (p1 : Nat) : List Value := [.int .i64 2, .string (ByteArray.mk #[97]), .slice p0 1 p1, .int .i64 0, .int .i64 0]
@[reducible] def kc14 : List Value := [.string (ByteArray.mk #[]), .int .i64 0, .int .i64 0, .int .u32 0]
@[reducible] def kc15 : List Value := [.int .i64 3, .int .i64 1, .bool false, .int .i64 0, .string (ByteArray.mk #[97]), .int .i64 5, .int .i64 1]
@[reducible] def kc16 (p0 : Option Addr) (p1 : Nat) (p2 : Option Addr) (p3 : Nat) : List Value := [.int .i64 30, .int .i64 3, .int .i64 0, .int .i64 2, .int .i64 0, .int .i64 0, .int .i64 0, .int .i64 1, .int .i64 0, .int .i64 5, .int .i64 1, .int .i64 0, .slice none 0 0, .slice none 0 0, .slice none 0 0, .int .i64 0, .int .i64 0, .int .i64 0, .int .i64 0, .int .i64 0, .int .i64 0, .int .i64 0, .int .i64 0, .int .i64 0, .slice none 0 0, .slice none 0 0, .slice none 0 0, .int .i64 0, .int .i64 0, .bool false, .int .i64 0, .string (ByteArray.mk #[]), .int .i64 0, .int .i64 0, .string (ByteArray.mk #[]), .int .i64 0, .int .i64 0, .slice none 0 0, .int .i64 2, .string (ByteArray.mk #[97]), .slice p0 1 p1, .int .i64 0, .int .i64 0, .slice none 0 0, .slice none 0 0, .int .i64 0, .bool true, .int .i64 3, .int .i64 1, .bool false, .int .i64 0, .string (ByteArray.mk #[97]), .int .i64 5, .int .i64 1, .string (ByteArray.mk #[]), .int .i64 0, .int .i64 0, .slice none 0 0, .int .i64 0, .slice p2 1 p3, .bool false]
@[reducible] def kc17 (p0 : Option Addr) (p1 : Nat) : List Value := [.string (ByteArray.mk #[97]), .int .i64 3, .int .i64 1, .slice p0 1 p1]
@[reducible] def kc18 (p0 : Option Addr) (p1 : Nat) (p2 : Option Addr) (p3 : Nat) (p4 : Option Addr) (p5 : Nat) : List Value := [.int .i64 30, .int .i64 3, .int .i64 0, .int .i64 2, .int .i64 0, .int .i64 0, .int .i64 0, .int .i64 1, .int .i64 0, .int .i64 5, .int .i64 1, .int .i64 0, .slice none 0 0, .slice none 0 0, .slice none 0 0, .int .i64 0, .int .i64 0, .int .i64 0, .int .i64 0, .int .i64 0, .int .i64 0, .int .i64 0, .int .i64 0, .int .i64 0, .slice none 0 0, .slice none 0 0, .slice none 0 0, .int .i64 0, .int .i64 0, .bool false, .int .i64 0, .string (ByteArray.mk #[]), .int .i64 0, .int .i64 0, .string (ByteArray.mk #[]), .int .i64 0, .int .i64 0, .slice none 0 0, .int .i64 2, .string (ByteArray.mk #[97]), .slice p0 1 p1, .int .i64 0, .int .i64 0, .slice none 0 0, .slice none 0 0, .int .i64 0, .bool true, .int .i64 3, .int .i64 1, .bool false, .int .i64 0, .string (ByteArray.mk #[97]), .int .i64 5, .int .i64 1, .string (ByteArray.mk #[97]), .int .i64 3, .int .i64 1, .slice p2 1 p3, .int .i64 0, .slice p4 1 p5, .bool false]
@[reducible] def kc19 (p0 : Option Addr) (p1 : Nat) (p2 : Option Addr) (p3 : Nat) (p4 : Option Addr) (p5 : Nat) : List Value := [.int .i64 3, .int .i64 0, .int .i64 0, .slice p0 1 p1, .slice p2 0 p3, .slice p4 0 p5]
@[reducible] def kc20 : List Value := [.int .i64 5, .int .i64 1, .int .i64 0, .int .i64 3, .int .i64 1]
@[reducible] def kc21 (p0 : Option Addr) (p1 : Nat) (p2 : Option Addr) (p3 : Nat) (p4 : Option Addr) (p5 : Nat) : List Value := [.int .i64 3, .int .i64 0, .int .i64 0, .slice p0 1 p1, .slice p2 1 p3, .slice p4 0 p5]
@[reducible] def kc22 (p0 : Int) : List Value := [.string (ByteArray.mk #[97]), .int .i64 3, .int .i64 1, .int .u32 p0]
@[reducible] def kc23 (p0 : Option Addr) (p1 : Nat) (p2 : Option Addr) (p3 : Nat) (p4 : Option Addr) (p5 : Nat) : List Value := [.int .i64 3, .int .i64 0, .int .i64 0, .slice p0 1 p1, .slice p2 1 p3, .slice p4 1 p5]
@[reducible] def kc24 (p0 : Option Addr) (p1 : Nat) (p2 : Option Addr) (p3 : Nat) (p4 : Option Addr) (p5 : Nat) (p6 : Option Addr) (p7 : Nat) (p8 : Option Addr) (p9 : Nat) : List Value := [.int .i64 1, .int .i64 0, .int .i64 3, .int .i64 0, .int .i64 9, .slice p0 1 p1, .int .i64 3, .int .i64 0, .int .i64 0, .slice p2 1 p3, .slice p4 1 p5, .slice p6 1 p7, .slice p8 0 p9, .pointer none, .bool false, .int .i64 0, .bool true]
@[reducible] def kc25 (p0 : Option Addr) (p1 : Nat) (p2 : Option Addr) (p3 : Nat) (p4 : Option Addr) (p5 : Nat) (p6 : Option Addr) (p7 : Nat) (p8 : Option Addr) (p9 : Nat) (p10 : Nat) : List Value := [.int .i64 1, .int .i64 0, .int .i64 3, .int .i64 0, .int .i64 9, .slice p0 1 p1, .int .i64 3, .int .i64 0, .int .i64 0, .slice p2 1 p3, .slice p4 1 p5, .slice p6 1 p7, .slice p8 0 p9, .pointer (some ⟨p10, 0, none⟩), .bool false, .int .i64 0, .bool true]
@[reducible] def kc26 (p0 : Option Addr) (p1 : Nat) (p2 : Option Addr) (p3 : Nat) (p4 : Option Addr) (p5 : Nat) : List Value := [.bool true, .int .i64 3, .int .i64 0, .int .i64 0, .slice p0 1 p1, .slice p2 1 p3, .slice p4 1 p5, .bool false, .string (ByteArray.mk #[]), .int .i64 0, .int .i64 0, .slice none 0 0, .bool false, .bool false, .string (ByteArray.mk #[]), .slice none 0 0]
@[reducible] def kc27 : List Value := [.string (ByteArray.mk #[]), .int .i64 0, .int .i64 0, .slice none 0 0]
@[reducible] def kc28 (p0 : Option Addr) (p1 : Nat) (p2 : Option Addr) (p3 : Nat) (p4 : Option Addr) (p5 : Nat) (p6 : Option Addr) (p7 : Nat) : List Value := [.bool true, .int .i64 3, .int .i64 0, .int .i64 0, .slice p0 1 p1, .slice p2 1 p3, .slice p4 1 p5, .bool true, .string (ByteArray.mk #[97]), .int .i64 3, .int .i64 1, .slice p6 1 p7, .bool false, .bool false, .string (ByteArray.mk #[]), .slice none 0 0]
@[reducible] def kc29 : List Value := [.int .i64 0, .int .i64 0, .int .i64 0, .int .i64 0, .int .i64 0, .int .i64 0, .int .i64 0, .int .i64 0, .int .i64 0, .int .i64 0, .int .i64 0, .int .i64 0, .slice none 0 0, .slice none 0 0, .slice none 0 0, .int .i64 0, .int .i64 0, .int .i64 0, .int .i64 0, .int .i64 0, .int .i64 0, .int .i64 0, .int .i64 0, .int .i64 0, .slice none 0 0, .slice none 0 0, .slice none 0 0, .int .i64 0, .int .i64 0, .bool false, .int .i64 0, .string (ByteArray.mk #[]), .int .i64 0, .int .i64 0, .string (ByteArray.mk #[]), .int .i64 0, .int .i64 0, .slice none 0 0, .int .i64 0, .string (ByteArray.mk #[]), .slice none 0 0, .int .i64 0, .int .i64 0, .slice none 0 0, .slice none 0 0, .int .i64 0]
@[reducible] def kc30 (p0 : Option Addr) (p1 : Nat) : List Value := [.int .i64 32, .int .i64 0, .int .i64 0, .int .i64 0, .int .i64 0, .int .i64 0, .int .i64 0, .int .i64 0, .int .i64 0, .int .i64 0, .int .i64 0, .int .i64 0, .slice none 0 0, .slice none 0 0, .slice none 0 0, .int .i64 0, .int .i64 0, .int .i64 0, .int .i64 0, .int .i64 0, .int .i64 0, .int .i64 0, .int .i64 0, .int .i64 0, .slice none 0 0, .slice none 0 0, .slice none 0 0, .int .i64 3, .int .i64 1, .bool false, .int .i64 0, .string (ByteArray.mk #[97]), .int .i64 5, .int .i64 1, .string (ByteArray.mk #[97]), .int .i64 3, .int .i64 1, .slice p0 1 p1, .int .i64 0, .string (ByteArray.mk #[]), .slice none 0 0, .int .i64 0, .int .i64 0, .slice none 0 0, .slice none 0 0, .int .i64 0]
@[reducible] def kc31 (p0 : Option Addr) (p1 : Nat) : List Value := [.int .i64 32, .int .i64 2, .int .i64 0, .int .i64 2, .int .i64 1, .int .i64 0, .int .i64 0, .int .i64 0, .int .i64 0, .int .i64 0, .int .i64 0, .int .i64 0, .slice none 0 0, .slice none 0 0, .slice none 0 0, .int .i64 0, .int .i64 0, .int .i64 0, .int .i64 0, .int .i64 0, .int .i64 0, .int .i64 0, .int .i64 0, .int .i64 0, .slice none 0 0, .slice none 0 0, .slice none 0 0, .int .i64 3, .int .i64 1, .bool false, .int .i64 0, .string (ByteArray.mk #[97]), .int .i64 5, .int .i64 1, .string (ByteArray.mk #[97]), .int .i64 3, .int .i64 1, .slice p0 1 p1, .int .i64 0, .string (ByteArray.mk #[]), .slice none 0 0, .int .i64 0, .int .i64 0, .slice none 0 0, .slice none 0 0, .int .i64 0]
@[reducible] def kc32 (p0 : Option Addr) (p1 : Nat) : List Value := [.int .i64 32, .int .i64 2, .int .i64 0, .int .i64 2, .int .i64 1, .int .i64 9, .int .i64 3, .int .i64 1, .int .i64 0, .int .i64 0, .int .i64 0, .int .i64 0, .slice none 0 0, .slice none 0 0, .slice none 0 0, .int .i64 0, .int .i64 0, .int .i64 0, .int .i64 0, .int .i64 0, .int .i64 0, .int .i64 0, .int .i64 0, .int .i64 0, .slice none 0 0, .slice none 0 0, .slice none 0 0, .int .i64 3, .int .i64 1, .bool false, .int .i64 0, .string (ByteArray.mk #[97]), .int .i64 5, .int .i64 1, .string (ByteArray.mk #[97]), .int .i64 3, .int .i64 1, .slice p0 1 p1, .int .i64 0, .string (ByteArray.mk #[]), .slice none 0 0, .int .i64 0, .int .i64 0, .slice none 0 0, .slice none 0 0, .int .i64 0]
@[reducible] def kc33 (p0 : Option Addr) (p1 : Nat) (p2 : Option Addr) (p3 : Nat) (p4 : Option Addr) (p5 : Nat) (p6 : Option Addr) (p7 : Nat) (p8 : Option Addr) (p9 : Nat) : List Value := [.bool true, .int .i64 3, .int .i64 0, .int .i64 0, .slice p0 1 p1, .slice p2 1 p3, .slice p4 1 p5, .bool true, .string (ByteArray.mk #[97]), .int .i64 3, .int .i64 1, .slice p6 1 p7, .bool false, .bool false, .string (ByteArray.mk #[]), .slice p8 1 p9]
@[reducible] def kc34 : List Value := [.int .i64 33, .int .i64 2, .int .i64 1, .int .i64 2, .int .i64 0, .int .i64 0, .int .i64 3, .int .i64 1, .int .i64 0, .int .i64 0, .int .i64 0, .int .i64 0, .slice none 0 0, .slice none 0 0, .slice none 0 0, .int .i64 0, .int .i64 0, .int .i64 0, .int .i64 0, .int .i64 0, .int .i64 0, .int .i64 0, .int .i64 0, .int .i64 0, .slice none 0 0, .slice none 0 0, .slice none 0 0, .int .i64 3, .int .i64 1, .bool false, .int .i64 0, .string (ByteArray.mk #[97]), .int .i64 5, .int .i64 1, .string (ByteArray.mk #[]), .int .i64 0, .int .i64 0, .slice none 0 0, .int .i64 0, .string (ByteArray.mk #[]), .slice none 0 0, .int .i64 0, .int .i64 0, .slice none 0 0, .slice none 0 0, .int .i64 0]
@[reducible] def kc35 (p0 : Option Addr) (p1 : Nat) (p2 : Option Addr) (p3 : Nat) (p4 : Option Addr) (p5 : Nat) : List Value := [.int .i64 30, .int .i64 3, .int .i64 0, .int .i64 2, .int .i64 0, .int .i64 0, .int .i64 0, .int .i64 1, .int .i64 0, .int .i64 5, .int .i64 1, .int .i64 0, .slice none 0 0, .slice none 0 0, .slice none 0 0, .int .i64 0, .int .i64 0, .int .i64 0, .int .i64 0, .int .i64 0, .int .i64 0, .int .i64 0, .int .i64 0, .int .i64 0, .slice none 0 0, .slice none 0 0, .slice none 0 0, .int .i64 0, .int .i64 0, .bool false, .int .i64 0, .string (ByteArray.mk #[]), .int .i64 0, .int .i64 0, .string (ByteArray.mk #[]), .int .i64 0, .int .i64 0, .slice none 0 0, .int .i64 2, .string (ByteArray.mk #[97]), .slice p0 1 p1, .int .i64 0, .int .i64 0, .slice none 0 0, .slice none 0 0, .int .i64 0, .bool true, .int .i64 3, .int .i64 1, .bool false, .int .i64 0, .string (ByteArray.mk #[97]), .int .i64 5, .int .i64 1, .string (ByteArray.mk #[97]), .int .i64 3, .int .i64 1, .slice p2 1 p3, .int .i64 0, .slice p4 0 p5, .bool false]
@[reducible] def kc36 : List Value := [.string (ByteArray.mk #[97]), .int .i64 3, .int .i64 1, .slice none 0 0]
@[reducible] def kc37 : List Value := [.int .i64 0, .int .i64 0, .int .i64 0, .int .i64 0, .int .i64 0, .int .i64 0, .int .i64 0, .int .i64 0, .int .i64 0, .int .i64 0, .int .i64 0, .int .i64 0, .slice none 0 0, .slice none 0 0, .slice none 0 0, .int .i64 0, .int .i64 0, .int .i64 0, .int .i64 0, .int .i64 0, .int .i64 0, .int .i64 0, .int .i64 0, .int .i64 0, .slice none 0 0, .slice none 0 0, .slice none 0 0, .int .i64 0, .int .i64 0, .bool false, .int .i64 0, .string (ByteArray.mk #[]), .int .i64 0, .int .i64 0, .string (ByteArray.mk #[97]), .int .i64 3, .int .i64 1, .slice none 0 0, .int .i64 0, .string (ByteArray.mk #[]), .slice none 0 0, .int .i64 0, .int .i64 0, .slice none 0 0, .slice none 0 0, .int .i64 0]
@[reducible] def kc38 : List Value := [.int .i64 31, .int .i64 0, .int .i64 0, .int .i64 0, .int .i64 0, .int .i64 0, .int .i64 0, .int .i64 0, .int .i64 0, .int .i64 5, .int .i64 1, .int .i64 0, .slice none 0 0, .slice none 0 0, .slice none 0 0, .int .i64 0, .int .i64 0, .int .i64 0, .int .i64 0, .int .i64 0, .int .i64 0, .int .i64 0, .int .i64 0, .int .i64 0, .slice none 0 0, .slice none 0 0, .slice none 0 0, .int .i64 0, .int .i64 0, .bool false, .int .i64 0, .string (ByteArray.mk #[]), .int .i64 0, .int .i64 0, .string (ByteArray.mk #[97]), .int .i64 3, .int .i64 1, .slice none 0 0, .int .i64 0, .string (ByteArray.mk #[]), .slice none 0 0, .int .i64 0, .int .i64 0, .slice none 0 0, .slice none 0 0, .int .i64 0]
@[reducible] def kc39 : List Value := [.int .i64 31, .int .i64 2, .int .i64 0, .int .i64 2, .int .i64 0, .int .i64 0, .int .i64 0, .int .i64 0, .int .i64 0, .int .i64 5, .int .i64 1, .int .i64 0, .slice none 0 0, .slice none 0 0, .slice none 0 0, .int .i64 0, .int .i64 0, .int .i64 0, .int .i64 0, .int .i64 0, .int .i64 0, .int .i64 0, .int .i64 0, .int .i64 0, .slice none 0 0, .slice none 0 0, .slice none 0 0, .int .i64 0, .int .i64 0, .bool false, .int .i64 0, .string (ByteArray.mk #[]), .int .i64 0, .int .i64 0, .string (ByteArray.mk #[97]), .int .i64 3, .int .i64 1, .slice none 0 0, .int .i64 0, .string (ByteArray.mk #[]), .slice none 0 0, .int .i64 0, .int .i64 0, .slice none 0 0, .slice none 0 0, .int .i64 0]
@[reducible] def kc40 : List Value := [.int .i64 31, .int .i64 2, .int .i64 0, .int .i64 2, .int .i64 0, .int .i64 9, .int .i64 3, .int .i64 1, .int .i64 0, .int .i64 5, .int .i64 1, .int .i64 0, .slice none 0 0, .slice none 0 0, .slice none 0 0, .int .i64 0, .int .i64 0, .int .i64 0, .int .i64 0, .int .i64 0, .int .i64 0, .int .i64 0, .int .i64 0, .int .i64 0, .slice none 0 0, .slice none 0 0, .slice none 0 0, .int .i64 0, .int .i64 0, .bool false, .int .i64 0, .string (ByteArray.mk #[]), .int .i64 0, .int .i64 0, .string (ByteArray.mk #[97]), .int .i64 3, .int .i64 1, .slice none 0 0, .int .i64 0, .string (ByteArray.mk #[]), .slice none 0 0, .int .i64 0, .int .i64 0, .slice none 0 0, .slice none 0 0, .int .i64 0]
@[reducible] def kc41 : List Value := [.int .i64 31, .int .i64 2, .int .i64 0, .int .i64 3, .int .i64 0, .int .i64 9, .int .i64 3, .int .i64 1, .int .i64 0, .int .i64 5, .int .i64 1, .int .i64 0, .slice none 0 0, .slice none 0 0, .slice none 0 0, .int .i64 0, .int .i64 0, .int .i64 0, .int .i64 0, .int .i64 0, .int .i64 0, .int .i64 0, .int .i64 0, .int .i64 0, .slice none 0 0, .slice none 0 0, .slice none 0 0, .int .i64 0, .int .i64 0, .bool false, .int .i64 0, .string (ByteArray.mk #[]), .int .i64 0, .int .i64 0, .string (ByteArray.mk #[97]), .int .i64 3, .int .i64 1, .slice none 0 0, .int .i64 0, .string (ByteArray.mk #[]), .slice none 0 0, .int .i64 0, .int .i64 0, .slice none 0 0, .slice none 0 0, .int .i64 0]
@[reducible] def kc42 (p0 : Option Addr) (p1 : Nat) : List Value := [.bool false, .int .i64 0, .int .i64 0, .int .i64 0, .slice none 0 0, .slice none 0 0, .slice none 0 0, .bool false, .string (ByteArray.mk #[]), .int .i64 0, .int .i64 0, .slice none 0 0, .bool false, .bool false, .string (ByteArray.mk #[]), .slice p0 1 p1]
@[reducible] def kc43 (p0 : Int) (p1 : Int) (p2 : Int) (p3 : Option Addr) (p4 : Nat) (p5 : Nat) (p6 : Option Addr) (p7 : Nat) (p8 : Nat) (p9 : Option Addr) (p10 : Nat) (p11 : Nat) : List Value := [.int .i64 p0, .int .i64 p1, .int .i64 p2, .slice p3 p4 p5, .slice p6 p7 p8, .slice p9 p10 p11]
@[reducible] def kc44 (p0 : Int) (p1 : Int) (p2 : Bool) (p3 : Int) (p4 : ByteArray) (p5 : Int) (p6 : Int) : List Value := [.int .i64 p0, .int .i64 p1, .bool p2, .int .i64 p3, .string p4, .int .i64 p5, .int .i64 p6]
@[reducible] def kc45 (p0 : ByteArray) (p1 : Int) (p2 : Int) (p3 : Int) : List Value := [.string p0, .int .i64 p1, .int .i64 p2, .int .u32 p3]
@[reducible] def kc46 (p0 : Int) (p1 : Int) (p2 : Int) (p3 : Int) (p4 : Int) : List Value := [.int .i64 p0, .int .i64 p1, .int .i64 p2, .int .i64 p3, .int .i64 p4]
@[reducible] def kc47 (p0 : Int) (p1 : Int) (p2 : Int) (p3 : Int) (p4 : Int) (p5 : Option Addr) (p6 : Nat) (p7 : Nat) (p8 : Int) (p9 : Int) (p10 : Int) (p11 : Option Addr) (p12 : Nat) (p13 : Nat) (p14 : Option Addr) (p15 : Nat) (p16 : Nat) (p17 : Option Addr) (p18 : Nat) (p19 : Nat) : List Value := [.int .i64 p0, .int .i64 p1, .int .i64 p2, .int .i64 p3, .int .i64 p4, .slice p5 p6 p7, .int .i64 p8, .int .i64 p9, .int .i64 p10, .slice p11 p12 p13, .slice p14 p15 p16, .slice p17 p18 p19, .slice none 0 0, .pointer none, .bool false, .int .i64 0, .bool true]
@[reducible] def kc48 (p0 : Int) (p1 : Int) (p2 : Int) (p3 : Int) (p4 : Int) (p5 : Int) (p6 : Int) (p7 : Int) (p8 : Option Addr) (p9 : Nat) (p10 : Nat) (p11 : Option Addr) (p12 : Nat) (p13 : Nat) (p14 : Option Addr) (p15 : Nat) (p16 : Nat) : List Value := [.int .i64 p0, .int .i64 p1, .int .i64 p2, .int .i64 p3, .int .i64 p4, .slice none 0 0, .int .i64 p5, .int .i64 p6, .int .i64 p7, .slice p8 p9 p10, .slice p11 p12 p13, .slice p14 p15 p16, .slice none 0 0, .pointer none, .bool false, .int .i64 0, .bool true]
@[reducible] def kc49 (p0 : Int) (p1 : Int) (p2 : Int) : List Value := [.int .i64 30, .int .i64 3, .int .i64 0, .int .i64 2, .int .i64 p0, .int .i64 0, .int .i64 0, .int .i64 p1, .int .i64 p2, .int .i64 70, .int .i64 1, .int .i64 0, .slice none 0 0, .slice none 0 0, .slice none 0 0, .int .i64 0, .int .i64 0, .int .i64 0, .int .i64 0, .int .i64 0, .int .i64 0, .int .i64 0, .int .i64 0, .int .i64 0, .slice none 0 0, .slice none 0 0, .slice none 0 0, .int .i64 0, .int .i64 0, .bool false, .int .i64 0, .string (ByteArray.mk #[]), .int .i64 0, .int .i64 0, .string (ByteArray.mk #[]), .int .i64 0, .int .i64 0, .slice none 0 0, .int .i64 5, .string (ByteArray.mk #[]), .slice none 0 0, .int .i64 0, .int .i64 0, .slice none 0 0, .slice none 0 0, .int .i64 0]
@[reducible] def kc50 (p0 : Int) (p1 : Int) (p2 : Int) (p3 : Int) (p4 : Int) (p5 : Option Addr) (p6 : Nat) (p7 : Nat) (p8 : Int) (p9 : Int) (p10 : Int) (p11 : Option Addr) (p12 : Nat) (p13 : Nat) (p14 : Option Addr) (p15 : Nat) (p16 : Nat) (p17 : Option Addr) (p18 : Nat) (p19 : Nat) (p20 : Int) : List Value := [.int .i64 p0, .int .i64 p1, .int .i64 p2, .int .i64 p3, .int .i64 p4, .slice p5 p6 p7, .int .i64 p8, .int .i64 p9, .int .i64 p10, .slice p11 p12 p13, .slice p14 p15 p16, .slice p17 p18 p19, .slice none 0 0, .pointer none, .bool false, .int .i64 p20, .bool true]
@[reducible] def kc51 (p0 : Int) (p1 : Int) (p2 : Int) (p3 : Int) : List Value := [.int .i64 30, .int .i64 3, .int .i64 0, .int .i64 2, .int .i64 p0, .int .i64 0, .int .i64 0, .int .i64 p1, .int .i64 p2, .int .i64 70, .int .i64 p3, .int .i64 0, .slice none 0 0, .slice none 0 0, .slice none 0 0, .int .i64 0, .int .i64 0, .int .i64 0, .int .i64 0, .int .i64 0, .int .i64 0, .int .i64 0, .int .i64 0, .int .i64 0, .slice none 0 0, .slice none 0 0, .slice none 0 0, .int .i64 0, .int .i64 0, .bool false, .int .i64 0, .string (ByteArray.mk #[]), .int .i64 0, .int .i64 0, .string (ByteArray.mk #[]), .int .i64 0, .int .i64 0, .slice none 0 0, .int .i64 5, .string (ByteArray.mk #[]), .slice none 0 0, .int .i64 0, .int .i64 0, .slice none 0 0, .slice none 0 0, .int .i64 0]
@[reducible] def kc52 (p0 : Int) (p1 : Int) (p2 : Int) (p3 : Int) (p4 : Int) (p5 : Option Addr) (p6 : Nat) (p7 : Nat) (p8 : Int) (p9 : Int) (p10 : Int) (p11 : Option Addr) (p12 : Nat) (p13 : Nat) (p14 : Option Addr) (p15 : Nat) (p16 : Nat) (p17 : Option Addr) (p18 : Nat) (p19 : Nat) (p20 : Option Addr) (p21 : Nat) (p22 : Int) : List Value := [.int .i64 p0, .int .i64 p1, .int .i64 p2, .int .i64 p3, .int .i64 p4, .slice p5 p6 p7, .int .i64 p8, .int .i64 p9, .int .i64 p10, .slice p11 p12 p13, .slice p14 p15 p16, .slice p17 p18 p19, .slice p20 1 p21, .pointer none, .bool false, .int .i64 p22, .bool true]
@[reducible] def kc53 (p0 : Int) : List Value := [.bool false, .int .i64 0, .int .i64 0, .int .i64 0, .slice none 0 0, .slice none 0 0, .slice none 0 0, .bool false, .string (ByteArray.mk #[]), .int .i64 0, .int .i64 p0, .slice none 0 0, .bool false, .bool false, .string (ByteArray.mk #[]), .slice none 0 0]
@[reducible] def kc54 (p0 : Int) (p1 : Int) (p2 : Int) (p3 : Int) (p4 : Int) (p5 : Option Addr) (p6 : Nat) (p7 : Nat) (p8 : Int) (p9 : Int) (p10 : Int) (p11 : Option Addr) (p12 : Nat) (p13 : Nat) (p14 : Option Addr) (p15 : Nat) (p16 : Nat) (p17 : Option Addr) (p18 : Nat) (p19 : Nat) (p20 : Option Addr) (p21 : Nat) (p22 : Int) : List Value := [.int .i64 p0, .int .i64 p1, .int .i64 p2, .int .i64 p3, .int .i64 p4, .slice p5 p6 p7, .int .i64 p8, .int .i64 p9, .int .i64 p10, .slice p11 p12 p13, .slice p14 p15 p16, .slice p17 p18 p19, .slice p20 0 p21, .pointer none, .bool false, .int .i64 p22, .bool true]
@[reducible] def kc55 (p0 : Int) (p1 : Int) (p2 : Int) (p3 : Int) (p4 : Int) (p5 : Option Addr) (p6 : Nat) (p7 : Nat) (p8 : Int) (p9 : Int) (p10 : Int) (p11 : Option Addr) (p12 : Nat) (p13 : Nat) (p14 : Option Addr) (p15 : Nat) (p16 : Nat) (p17 : Option Addr) (p18 : Nat) (p19 : Nat) (p20 : Option Addr) (p21 : Nat) (p22 : Nat) (p23 : Int) : List Value := [.int .i64 p0, .int .i64 p1, .int .i64 p2, .int .i64 p3, .int .i64 p4, .slice p5 p6 p7, .int .i64 p8, .int .i64 p9, .int .i64 p10, .slice p11 p12 p13, .slice p14 p15 p16, .slice p17 p18 p19, .slice p20 0 p21, .pointer (some ⟨p22, 0, none⟩), .bool false, .int .i64 p23, .bool true]
@[reducible] def kc56 (p0 : Int) (p1 : Int) (p2 : Int) (p3 : Int) (p4 : Int) (p5 : Option Addr) (p6 : Nat) (p7 : Nat) : List Value := [.int .i64 30, .int .i64 3, .int .i64 0, .int .i64 2, .int .i64 p0, .int .i64 0, .int .i64 0, .int .i64 p1, .int .i64 p2, .int .i64 70, .int .i64 p3, .int .i64 0, .slice none 0 0, .slice none 0 0, .slice none 0 0, .int .i64 0, .int .i64 0, .int .i64 0, .int .i64 0, .int .i64 0, .int .i64 0, .int .i64 0, .int .i64 0, .int .i64 0, .slice none 0 0, .slice none 0 0, .slice none 0 0, .int .i64 0, .int .i64 0, .bool false, .int .i64 0, .string (ByteArray.mk #[]), .int .i64 0, .int .i64 0, .string (ByteArray.mk #[]), .int .i64 0, .int .i64 0, .slice none 0 0, .int .i64 5, .string (ByteArray.mk #[]), .slice none 0 0, .int .i64 0, .int .i64 0, .slice none 0 0, .slice none 0 0, .int .i64 0, .bool false, .int .i64 0, .int .i64 0, .bool false, .int .i64 0, .string (ByteArray.mk #[]), .int .i64 0, .int .i64 0, .string (ByteArray.mk #[]), .int .i64 0, .int .i64 0, .slice none 0 0, .int .i64 p4, .slice p5 p6 p7, .bool false]
@[reducible] def kc57 (p0 : Int) : List Value := [.int .i64 34, .int .i64 0, .int .i64 0, .int .i64 0, .int .i64 0, .int .i64 0, .int .i64 0, .int .i64 0, .int .i64 0, .int .i64 0, .int .i64 p0, .int .i64 0, .slice none 0 0, .slice none 0 0, .slice none 0 0, .int .i64 0, .int .i64 0, .int .i64 0, .int .i64 0, .int .i64 0, .int .i64 0, .int .i64 0, .int .i64 0, .int .i64 0, .slice none 0 0, .slice none 0 0, .slice none 0 0, .int .i64 0, .int .i64 0, .bool false, .int .i64 0, .string (ByteArray.mk #[]), .int .i64 0, .int .i64 0, .string (ByteArray.mk #[]), .int .i64 0, .int .i64 0, .slice none 0 0, .int .i64 0, .string (ByteArray.mk #[]), .slice none 0 0, .int .i64 0, .int .i64 0, .slice none 0 0, .slice none 0 0, .int .i64 0]
@[reducible] def kc58 (p0 : Int) (p1 : Int) (p2 : Int) : List Value := [.int .i64 34, .int .i64 2, .int .i64 p0, .int .i64 2, .int .i64 p1, .int .i64 0, .int .i64 0, .int .i64 0, .int .i64 0, .int .i64 0, .int .i64 p2, .int .i64 0, .slice none 0 0, .slice none 0 0, .slice none 0 0, .int .i64 0, .int .i64 0, .int .i64 0, .int .i64 0, .int .i64 0, .int .i64 0, .int .i64 0, .int .i64 0, .int .i64 0, .slice none 0 0, .slice none 0 0, .slice none 0 0, .int .i64 0, .int .i64 0, .bool false, .int .i64 0, .string (ByteArray.mk #[]), .int .i64 0, .int .i64 0, .string (ByteArray.mk #[]), .int .i64 0, .int .i64 0, .slice none 0 0, .int .i64 0, .string (ByteArray.mk #[]), .slice none 0 0, .int .i64 0, .int .i64 0, .slice none 0 0, .slice none 0 0, .int .i64 0]
@[reducible] def kc59 (p0 : Int) (p1 : Int) (p2 : Int) (p3 : Int) (p4 : Int) (p5 : Int) (p6 : Int) : List Value := [.int .i64 34, .int .i64 2, .int .i64 p0, .int .i64 2, .int .i64 p1, .int .i64 p2, .int .i64 p3, .int .i64 p4, .int .i64 p5, .int .i64 0, .int .i64 p6, .int .i64 0, .slice none 0 0, .slice none 0 0, .slice none 0 0, .int .i64 0, .int .i64 0, .int .i64 0, .int .i64 0, .int .i64 0, .int .i64 0, .int .i64 0, .int .i64 0, .int .i64 0, .slice none 0 0, .slice none 0 0, .slice none 0 0, .int .i64 0, .int .i64 0, .bool false, .int .i64 0, .string (ByteArray.mk #[]), .int .i64 0, .int .i64 0, .string (ByteArray.mk #[]), .int .i64 0, .int .i64 0, .slice none 0 0, .int .i64 0, .string (ByteArray.mk #[]), .slice none 0 0, .int .i64 0, .int .i64 0, .slice none 0 0, .slice none 0 0, .int .i64 0]
@[reducible] def kc60 (p0 : Int) (p1 : Option Addr) (p2 : Nat) : List Value := [.bool false, .int .i64 0, .int .i64 0, .int .i64 0, .slice none 0 0, .slice none 0 0, .slice none 0 0, .bool false, .string (ByteArray.mk #[]), .int .i64 0, .int .i64 p0, .slice none 0 0, .bool false, .bool false, .string (ByteArray.mk #[]), .slice p1 1 p2]
@[reducible] def kc62 (p0 : Int) (p1 : Option Addr) (p2 : Nat) (p3 : Nat) : List Value := [.bool false, .int .i64 0, .int .i64 0, .int .i64 0, .slice none 0 0, .slice none 0 0, .slice none 0 0, .bool false, .string (ByteArray.mk #[]), .int .i64 0, .int .i64 p0, .slice none 0 0, .bool false, .bool false, .string (ByteArray.mk #[]), .slice p1 p2 p3]
@[reducible] def kc63 (p0 : Option Addr) (p1 : Nat) (p2 : Nat) : List Value := [.bool false, .int .i64 0, .int .i64 0, .int .i64 0, .slice none 0 0, .slice none 0 0, .slice none 0 0, .bool false, .string (ByteArray.mk #[]), .int .i64 0, .int .i64 0, .slice none 0 0, .bool false, .bool false, .string (ByteArray.mk #[]), .slice p0 p1 p2]
@[reducible] def kc64 (p0 : Int) (p1 : Int) (p2 : Int) (p3 : Int) (p4 : Option Addr) (p5 : Nat) (p6 : Nat) : List Value := [.int .i64 30, .int .i64 3, .int .i64 0, .int .i64 2, .int .i64 p0, .int .i64 0, .int .i64 0, .int .i64 p1, .int .i64 p2, .int .i64 70, .int .i64 1, .int .i64 0, .slice none 0 0, .slice none 0 0, .slice none 0 0, .int .i64 0, .int .i64 0, .int .i64 0, .int .i64 0, .int .i64 0, .int .i64 0, .int .i64 0, .int .i64 0, .int .i64 0, .slice none 0 0, .slice none 0 0, .slice none 0 0, .int .i64 0, .int .i64 0, .bool false, .int .i64 0, .string (ByteArray.mk #[]), .int .i64 0, .int .i64 0, .string (ByteArray.mk #[]), .int .i64 0, .int .i64 0, .slice none 0 0, .int .i64 5, .string (ByteArray.mk #[]), .slice none 0 0, .int .i64 0, .int .i64 0, .slice none 0 0, .slice none 0 0, .int .i64 0, .bool false, .int .i64 0, .int .i64 0, .bool false, .int .i64 0, .string (ByteArray.mk #[]), .int .i64 0, .int .i64 0, .string (ByteArray.mk #[]), .int .i64 0, .int .i64 0, .slice none 0 0, .int .i64 p3, .slice p4 p5 p6, .bool false]
@[reducible] def kc65 (p0 : Int) (p1 : Int) (p2 : Int) (p3 : Int) (p4 : Int) (p5 : Int) (p6 : Int) (p7 : Int) (p8 : Int) (p9 : Int) (p10 : Int) (p11 : Int) (p12 : Int) (p13 : Int) (p14 : Int) (p15 : Int) (p16 : Int) (p17 : Int) (p18 : Int) (p19 : Int) (p20 : Int) (p21 : Int) (p22 : Int) (p23 : Bool) (p24 : Int) (p25 : ByteArray) (p26 : Int) (p27 : Int) (p28 : ByteArray) (p29 : Int) (p30 : Int) (p31 : Int) (p32 : ByteArray) (p33 : Int) (p34 : Int) (p35 : Int) : List Value := [.int .i64 p0, .int .i64 p1, .int .i64 p2, .int .i64 p3, .int .i64 p4, .int .i64 p5, .int .i64 p6, .int .i64 p7, .int .i64 p8, .int .i64 p9, .int .i64 p10, .int .i64 p11, .slice none 0 0, .slice none 0 0, .slice none 0 0, .int .i64 p12, .int .i64 p13, .int .i64 p14, .int .i64 p15, .int .i64 p16, .int .i64 p17, .int .i64 p18, .int .i64 p19, .int .i64 p20, .slice none 0 0, .slice none 0 0, .slice none 0 0, .int .i64 p21, .int .i64 p22, .bool p23, .int .i64 p24, .string p25, .int .i64 p26, .int .i64 p27, .string p28, .int .i64 p29, .int .i64 p30, .slice none 0 0, .int .i64 p31, .string p32, .slice none 0 0, .int .i64 p33, .int .i64 p34, .slice none 0 0, .slice none 0 0, .int .i64 p35]
@[reducible] def kc66 (p0 : Int) (p1 : Int) (p2 : Int) (p3 : Int) (p4 : Int) (p5 : Int) (p6 : Int) (p7 : Int) : List Value := [.int .i64 35, .int .i64 p0, .int .i64 p1, .int .i64 p2, .int .i64 p3, .int .i64 0, .int .i64 p4, .int .i64 p5, .int .i64 p6, .int .i64 0, .int .i64 p7, .int .i64 0, .slice none 0 0, .slice none 0 0, .slice none 0 0, .int .i64 0, .int .i64 0, .int .i64 0, .int .i64 0, .int .i64 0, .int .i64 0, .int .i64 0, .int .i64 0, .int .i64 0, .slice none 0 0, .slice none 0 0, .slice none 0 0, .int .i64 0, .int .i64 0, .bool false, .int .i64 0, .string (ByteArray.mk #[]), .int .i64 0, .int .i64 0, .string (ByteArray.mk #[]), .int .i64 0, .int .i64 0, .slice none 0 0, .int .i64 0, .string (ByteArray.mk #[]), .slice none 0 0, .int .i64 0, .int .i64 0, .slice none 0 0, .slice none 0 0, .int .i64 0]
@[reducible] def kc67 : List Value := [.int .i64 5, .string (ByteArray.mk #[]), .slice none 0 0, .int .i64 0, .int .i64 0]
@[reducible] def kc69 (p0 : Option Addr) (p1 : Nat) (p2 : Nat) : List Value := [.int .i64 0, .int .i64 0, .int .i64 0, .int .i64 0, .int .i64 0, .int .i64 0, .int .i64 0, .int .i64 0, .int .i64 0, .int .i64 0, .int .i64 0, .int .i64 0, .slice none 0 0, .slice none 0 0, .slice none 0 0, .int .i64 0, .int .i64 0, .int .i64 0, .int .i64 0, .int .i64 0, .int .i64 0, .int .i64 0, .int .i64 0, .int .i64 0, .slice none 0 0, .slice none 0 0, .slice none 0 0, .int .i64 0, .int .i64 0, .bool false, .int .i64 0, .string (ByteArray.mk #[]), .int .i64 0, .int .i64 0, .string (ByteArray.mk #[]), .int .i64 0, .int .i64 0, .slice none 0 0, .int .i64 0, .string (ByteArray.mk #[]), .slice none 0 0, .int .i64 0, .int .i64 0, .slice none 0 0, .slice p0 p1 p2, .int .i64 0]
@[reducible] def kc70 (p0 : Int) (p1 : Option Addr) (p2 : Nat) (p3 : Nat) : List Value := [.int .i64 0, .int .i64 0, .int .i64 0, .int .i64 0, .int .i64 0, .int .i64 0, .int .i64 0, .int .i64 0, .int .i64 0, .int .i64 0, .int .i64 p0, .int .i64 0, .slice none 0 0, .slice none 0 0, .slice none 0 0, .int .i64 0, .int .i64 0, .int .i64 0, .int .i64 0, .int .i64 0, .int .i64 0, .int .i64 0, .int .i64 0, .int .i64 0, .slice none 0 0, .slice none 0 0, .slice none 0 0, .int .i64 0, .int .i64 0, .bool false, .int .i64 0, .string (ByteArray.mk #[]), .int .i64 0, .int .i64 0, .string (ByteArray.mk #[]), .int .i64 0, .int .i64 0, .slice none 0 0, .int .i64 0, .string (ByteArray.mk #[]), .slice none 0 0, .int .i64 0, .int .i64 0, .slice none 0 0, .slice p1 p2 p3, .int .i64 0]
@[reducible] def kc71 (p0 : Int) (p1 : Option Addr) (p2 : Nat) (p3 : Nat) : List Value := [.int .i64 31, .int .i64 0, .int .i64 0, .int .i64 0, .int .i64 0, .int .i64 0, .int .i64 0, .int .i64 0, .int .i64 0, .int .i64 70, .int .i64 p0, .int .i64 0, .slice none 0 0, .slice none 0 0, .slice none 0 0, .int .i64 0, .int .i64 0, .int .i64 0, .int .i64 0, .int .i64 0, .int .i64 0, .int .i64 0, .int .i64 0, .int .i64 0, .slice none 0 0, .slice none 0 0, .slice none 0 0, .int .i64 0, .int .i64 0, .bool false, .int .i64 0, .string (ByteArray.mk #[]), .int .i64 0, .int .i64 0, .string (ByteArray.mk #[]), .int .i64 0, .int .i64 0, .slice none 0 0, .int .i64 0, .string (ByteArray.mk #[]), .slice none 0 0, .int .i64 0, .int .i64 0, .slice none 0 0, .slice p1 p2 p3, .int .i64 0]
@[reducible] def kc72 (p0 : Int) (p1 : Int) (p2 : Option Addr) (p3 : Nat) (p4 : Nat) : List Value := [.int .i64 31, .int .i64 2, .int .i64 p0, .int .i64 2, .int .i64 0, .int .i64 0, .int .i64 0, .int .i64 0, .int .i64 0, .int .i64 70, .int .i64 p1, .int .i64 0, .slice none 0 0, .slice none 0 0, .slice none 0 0, .int .i64 0, .int .i64 0, .int .i64 0, .int .i64 0, .int .i64 0, .int .i64 0, .int .i64 0, .int .i64 0, .int .i64 0, .slice none 0 0, .slice none 0 0, .slice none 0 0, .int .i64 0, .int .i64 0, .bool false, .int .i64 0, .string (ByteArray.mk #[]), .int .i64 0, .int .i64 0, .string (ByteArray.mk #[]), .int .i64 0, .int .i64 0, .slice none 0 0, .int .i64 0, .string (ByteArray.mk #[]), .slice none 0 0, .int .i64 0, .int .i64 0, .slice none 0 0, .slice p2 p3 p4, .int .i64 0]
@[reducible] def kc73 (p0 : Int) (p1 : Int) (p2 : Int) (p3 : Int) (p4 : Int) (p5 : Int) (p6 : Option Addr) (p7 : Nat) (p8 : Nat) : List Value := [.int .i64 31, .int .i64 2, .int .i64 p0, .int .i64 2, .int .i64 0, .int .i64 p1, .int .i64 p2, .int .i64 p3, .int .i64 p4, .int .i64 70, .int .i64 p5, .int .i64 0, .slice none 0 0, .slice none 0 0, .slice none 0 0, .int .i64 0, .int .i64 0, .int .i64 0, .int .i64 0, .int .i64 0, .int .i64 0, .int .i64 0, .int .i64 0, .int .i64 0, .slice none 0 0, .slice none 0 0, .slice none 0 0, .int .i64 0, .int .i64 0, .bool false, .int .i64 0, .string (ByteArray.mk #[]), .int .i64 0, .int .i64 0, .string (ByteArray.mk #[]), .int .i64 0, .int .i64 0, .slice none 0 0, .int .i64 0, .string (ByteArray.mk #[]), .slice none 0 0, .int .i64 0, .int .i64 0, .slice none 0 0, .slice p6 p7 p8, .int .i64 0]
@[reducible] def kc74 (p0 : Int) (p1 : Int) (p2 : Int) (p3 : Int) (p4 : Int) (p5 : Int) (p6 : Option Addr) (p7 : Nat) (p8 : Nat) : List Value := [.int .i64 31, .int .i64 2, .int .i64 p0, .int .i64 3, .int .i64 0, .int .i64 p1, .int .i64 p2, .int .i64 p3, .int .i64 p4, .int .i64 70, .int .i64 p5, .int .i64 0, .slice none 0 0, .slice none 0 0, .slice none 0 0, .int .i64 0, .int .i64 0, .int .i64 0, .int .i64 0, .int .i64 0, .int .i64 0, .int .i64 0, .int .i64 0, .int .i64 0, .slice none 0 0, .slice none 0 0, .slice none 0 0, .int .i64 0, .int .i64 0, .bool false, .int .i64 0, .string (ByteArray.mk #[]), .int .i64 0, .int .i64 0, .string (ByteArray.mk #[]), .int .i64 0, .int .i64 0, .slice none 0 0, .int .i64 0, .string (ByteArray.mk #[]), .slice none 0 0, .int .i64 0, .int .i64 0, .slice none 0 0, .slice p6 p7 p8, .int .i64 0]
@[reducible] def kc75 (p0 : Int) (p1 : Int) (p2 : Int) (p3 : Int) (p4 : Int) (p5 : Option Addr) (p6 : Nat) (p7 : Nat) : List Value := [.int .i64 31, .int .i64 2, .int .i64 p0, .int .i64 3, .int .i64 0, .int .i64 p1, .int .i64 p2, .int .i64 p3, .int .i64 p4, .int .i64 70, .int .i64 1, .int .i64 0, .slice none 0 0, .slice none 0 0, .slice none 0 0, .int .i64 0, .int .i64 0, .int .i64 0, .int .i64 0, .int .i64 0, .int .i64 0, .int .i64 0, .int .i64 0, .int .i64 0, .slice none 0 0, .slice none 0 0, .slice none 0 0, .int .i64 0, .int .i64 0, .bool false, .int .i64 0, .string (ByteArray.mk #[]), .int .i64 0, .int .i64 0, .string (ByteArray.mk #[]), .int .i64 0, .int .i64 0, .slice none 0 0, .int .i64 0, .string (ByteArray.mk #[]), .slice none 0 0, .int .i64 0, .int .i64 0, .slice none 0 0, .slice p5 p6 p7, .int .i64 0]
@[reducible] def kc76 (p0 : Int) (p1 : Int) (p2 : Int) : List Value := [.int .i64 30, .int .i64 3, .int .i64 0, .int .i64 2, .int .i64 p0, .int .i64 0, .int .i64 0, .int .i64 p1, .int .i64 p2, .int .i64 70, .int .i64 2, .int .i64 0, .slice none 0 0, .slice none 0 0, .slice none 0 0, .int .i64 0, .int .i64 0, .int .i64 0, .int .i64 0, .int .i64 0, .int .i64 0, .int .i64 0, .int .i64 0, .int .i64 0, .slice none 0 0, .slice none 0 0, .slice none 0 0, .int .i64 0, .int .i64 0, .bool false, .int .i64 0, .string (ByteArray.mk #[]), .int .i64 0, .int .i64 0, .string (ByteArray.mk #[]), .int .i64 0, .int .i64 0, .slice none 0 0, .int .i64 5, .string (ByteArray.mk #[]), .slice none 0 0, .int .i64 0, .int .i64 0, .slice none 0 0, .slice none 0 0, .int .i64 0]
@[reducible] def kc77 (p0 : Int) (p1 : Int) (p2 : Int) (p3 : Int) (p4 : Option Addr) (p5 : Nat) (p6 : Nat) : List Value := [.int .i64 30, .int .i64 3, .int .i64 0, .int .i64 2, .int .i64 p0, .int .i64 0, .int .i64 0, .int .i64 p1, .int .i64 p2, .int .i64 70, .int .i64 2, .int .i64 0, .slice none 0 0, .slice none 0 0, .slice none 0 0, .int .i64 0, .int .i64 0, .int .i64 0, .int .i64 0, .int .i64 0, .int .i64 0, .int .i64 0, .int .i64 0, .int .i64 0, .slice none 0 0, .slice none 0 0, .slice none 0 0, .int .i64 0, .int .i64 0, .bool false, .int .i64 0, .string (ByteArray.mk #[]), .int .i64 0, .int .i64 0, .string (ByteArray.mk #[]), .int .i64 0, .int .i64 0, .slice none 0 0, .int .i64 5, .string (ByteArray.mk #[]), .slice none 0 0, .int .i64 0, .int .i64 0, .slice none 0 0, .slice none 0 0, .int .i64 0, .bool false, .int .i64 0, .int .i64 0, .bool false, .int .i64 0, .string (ByteArray.mk #[]), .int .i64 0, .int .i64 0, .string (ByteArray.mk #[]), .int .i64 0, .int .i64 0, .slice none 0 0, .int .i64 p3, .slice p4 p5 p6, .bool false]
@[reducible] def kc78 (p0 : Int) (p1 : Int) (p2 : Int) (p3 : Int) (p4 : Int) (p5 : Option Addr) (p6 : Nat) (p7 : Nat) : List Value := [.int .i64 31, .int .i64 2, .int .i64 p0, .int .i64 3, .int .i64 0, .int .i64 p1, .int .i64 p2, .int .i64 p3, .int .i64 p4, .int .i64 70, .int .i64 2, .int .i64 0, .slice none 0 0, .slice none 0 0, .slice none 0 0, .int .i64 0, .int .i64 0, .int .i64 0, .int .i64 0, .int .i64 0, .int .i64 0, .int .i64 0, .int .i64 0, .int .i64 0, .slice none 0 0, .slice none 0 0, .slice none 0 0, .int .i64 0, .int .i64 0, .bool false, .int .i64 0, .string (ByteArray.mk #[]), .int .i64 0, .int .i64 0, .string (ByteArray.mk #[]), .int .i64 0, .int .i64 0, .slice none 0 0, .int .i64 0, .string (ByteArray.mk #[]), .slice none 0 0, .int .i64 0, .int .i64 0, .slice none 0 0, .slice p5 p6 p7, .int .i64 0]
@[reducible] def kc79 (p0 : Int) (p1 : Int) (p2 : Int) (p3 : Int) (p4 : Int) (p5 : Int) (p6 : Int) (p7 : Int) (p8 : Option Addr) (p9 : Nat) (p10 : Nat) (p11 : Option Addr) (p12 : Nat) (p13 : Nat) (p14 : Option Addr) (p15 : Nat) (p16 : Nat) (p17 : Int) : List Value := [.int .i64 p0, .int .i64 p1, .int .i64 p2, .int .i64 p3, .int .i64 p4, .slice none 0 0, .int .i64 p5, .int .i64 p6, .int .i64 p7, .slice p8 p9 p10, .slice p11 p12 p13, .slice p14 p15 p16, .slice none 0 0, .pointer none, .bool false, .int .i64 p17, .bool true]
@[reducible] def kc80 (p0 : Int) (p1 : Int) (p2 : Int) (p3 : Int) (p4 : Int) (p5 : Int) (p6 : Int) (p7 : Int) (p8 : Option Addr) (p9 : Nat) (p10 : Nat) (p11 : Option Addr) (p12 : Nat) (p13 : Nat) (p14 : Option Addr) (p15 : Nat) (p16 : Nat) (p17 : Option Addr) (p18 : Nat) (p19 : Int) : List Value := [.int .i64 p0, .int .i64 p1, .int .i64 p2, .int .i64 p3, .int .i64 p4, .slice none 0 0, .int .i64 p5, .int .i64 p6, .int .i64 p7, .slice p8 p9 p10, .slice p11 p12 p13, .slice p14 p15 p16, .slice p17 1 p18, .pointer none, .bool false, .int .i64 p19, .bool true]
@[reducible] def kc81 (p0 : Int) (p1 : Int) (p2 : Int) (p3 : Int) (p4 : Int) (p5 : Int) (p6 : Int) (p7 : Int) (p8 : Option Addr) (p9 : Nat) (p10 : Nat) (p11 : Option Addr) (p12 : Nat) (p13 : Nat) (p14 : Option Addr) (p15 : Nat) (p16 : Nat) (p17 : Option Addr) (p18 : Nat) (p19 : Int) : List Value := [.int .i64 p0, .int .i64 p1, .int .i64 p2, .int .i64 p3, .int .i64 p4, .slice none 0 0, .int .i64 p5, .int .i64 p6, .int .i64 p7, .slice p8 p9 p10, .slice p11 p12 p13, .slice p14 p15 p16, .slice p17 0 p18, .pointer none, .bool false, .int .i64 p19, .bool true]
@[reducible] def kc82 (p0 : Int) (p1 : Int) (p2 : Int) (p3 : Int) (p4 : Int) (p5 : Int) (p6 : Int) (p7 : Int) (p8 : Option Addr) (p9 : Nat) (p10 : Nat) (p11 : Option Addr) (p12 : Nat) (p13 : Nat) (p14 : Option Addr) (p15 : Nat) (p16 : Nat) (p17 : Option Addr) (p18 : Nat) (p19 : Nat) (p20 : Int) : List Value := [.int .i64 p0, .int .i64 p1, .int .i64 p2, .int .i64 p3, .int .i64 p4, .slice none 0 0, .int .i64 p5, .int .i64 p6, .int .i64 p7, .slice p8 p9 p10, .slice p11 p12 p13, .slice p14 p15 p16, .slice p17 0 p18, .pointer (some ⟨p19, 0, none⟩), .bool false, .int .i64 p20, .bool true]
@[reducible] def kc83 (p0 : Int) (p1 : Int) (p2 : Int) (p3 : Int) (p4 : Int) : List Value := [.int .i64 30, .int .i64 3, .int .i64 0, .int .i64 2, .int .i64 p0, .int .i64 0, .int .i64 0, .int .i64 p1, .int .i64 p2, .int .i64 70, .int .i64 p3, .int .i64 0, .slice none 0 0, .slice none 0 0, .slice none 0 0, .int .i64 0, .int .i64 0, .int .i64 0, .int .i64 0, .int .i64 0, .int .i64 0, .int .i64 0, .int .i64 0, .int .i64 0, .slice none 0 0, .slice none 0 0, .slice none 0 0, .int .i64 0, .int .i64 0, .bool false, .int .i64 0, .string (ByteArray.mk #[]), .int .i64 0, .int .i64 0, .string (ByteArray.mk #[]), .int .i64 0, .int .i64 0, .slice none 0 0, .int .i64 5, .string (ByteArray.mk #[]), .slice none 0 0, .int .i64 0, .int .i64 0, .slice none 0 0, .slice none 0 0, .int .i64 0, .bool false, .int .i64 0, .int .i64 0, .bool false, .int .i64 0, .string (ByteArray.mk #[]), .int .i64 0, .int .i64 0, .string (ByteArray.mk #[]), .int .i64 0, .int .i64 0, .slice none 0 0, .int .i64 p4, .slice none 0 0, .bool false]

def m_tholelaw18_twice (F : Nat) (a0 : List Int) : Option (Bool) :=
  grd (Len a0.length) (loopL (fun (c : Unit → Option (Bool)) (a : Nat) (e : Int) (_ : Unit) => grd ((a : Int) ≤ 9223372036854775807) (loopC (fun (d : Unit → Option (Bool)) (b : Nat) (_ : Unit) => grd (b < a0.length) ((bif (a0.getD b 0) == e then some true else d ()))) (fun (b : Nat) (_ : Unit) => c ()) (Int.toNat ((a : Int) - (0 : Int))) 0 ())) (fun (a : Nat) (_ : Unit) => some (decide ((a0.length : Int) > 20))) a0 0 ())

def m_slices_Index___int_int_ (F : Nat) : Option (Unit) :=
  some ()

def m_slices_Contains___int_int_ (F : Nat) : Option (Unit) :=
  (m_slices_Index___int_int_ F).bind (fun y3 => some ())

def m_pglog_below (F : Nat) : Option (Unit) :=
  some ()

def m_pglog_rising_api_Item_string_ (F : Nat) : Option (Unit) :=
  some ()

def m_pglog_rising_api_Last_int_ (F : Nat) : Option (Unit) :=
  some ()

def m_pglog_Check (F : Nat) : Option (Unit) :=
  (m_pglog_below F).bind (fun y3 => (m_pglog_rising_api_Item_string_ F).bind (fun y9 => (m_pglog_rising_api_Last_int_ F).bind (fun a => some ())))

def m_pglog_Copy (F : Nat) : Option (Unit) :=
  some ()

def m_primary_New (F : Nat) : Option (Unit) :=
  (m_slices_Contains___int_int_ F).bind (fun y3 => (m_pglog_Check F).bind (fun y5 => (m_pglog_Copy F).bind (fun a => some ())))

def m_slices_IndexFunc___api_Msg_api_Msg_ (F : Nat) : Option (Unit) :=
  some ()

def m_slices_ContainsFunc___api_Msg_api_Msg_ (F : Nat) : Option (Unit) :=
  (m_slices_IndexFunc___api_Msg_api_Msg_ F).bind (fun y3 => some ())

def m_slices_Clone___byte_byte_ (F : Nat) : Option (Unit) :=
  some ()

def m_pglog_Seen (F : Nat) : Option (Unit) :=
  some ()

def m_pglog_Find (F : Nat) : Option (Unit) :=
  some ()

def m_place_Good (F : Nat) : Option (Unit) :=
  some ()

def m_primary_Verdict (F : Nat) : Option (Unit) :=
  (m_pglog_Find F).bind (fun y3 => (m_place_Good F).bind (fun y9 => some ()))

def m_pglog_Head (F : Nat) : Option (Unit) :=
  some ()

def m_primary_Next (F : Nat) : Option (Unit) :=
  (m_pglog_Head F).bind (fun y3 => some ())

def m_slices_Clone___int_int_ (F : Nat) : Option (Unit) :=
  some ()

def m_digest_New (F : Nat) : Option (Unit) :=
  some ()

def m___digest_Engine__make (F : Nat) (a0 : S_digest_Engine) : Option (S_digest_Engine) :=
  grd ((256 : Int) ≤ 9223372036854775807) (loopC (fun (e : List Int → Option (S_digest_Engine)) (c : Nat) (a : List Int) => grd ((8 : Int) ≤ 9223372036854775807) (loopC (fun (d : Int → Option (S_digest_Engine)) (f : Nat) (b : Int) => (bif (iand .u32 b 1) == 1 then d (ixor .u32 (Int.fdiv b (2 ^ 1)) 2197175160) else d (Int.fdiv b (2 ^ 1)))) (fun (f : Nat) (b : Int) => grd (c < 256) (grd (c < a.length) (e (a.set c b)))) (Int.toNat (8 - (0 : Int))) 0 (IntKind.u32.wrap (c : Int)))) (fun (c : Nat) (a : List Int) => some (S_digest_Engine.mk a0.once a a0.calls)) (Int.toNat (256 - (0 : Int))) 0 a0.table)

/-- What sync.Once.Do makes of an engine's table. -/
def m_once (F : Nat) (d st se : Int) (L : List Int) (c : Int) : Option (List Int) :=
  grd (st = 0) (grd (L.length = 256) (bif d == 1 then some L else grd (d = 0) ((m___digest_Engine__make F (S_digest_Engine.mk (S_sync_Once.mk S_sync_noCopy.mk (S_atomic_Bool.mk S_atomic_noCopy.mk 0) (S_sync_Mutex'.mk S_sync_noCopy.mk (S_sync_Mutex.mk 1 se))) L (S_atomic_Int64.mk S_atomic_noCopy.mk S_atomic_align64.mk c))).bind (fun y => grd (y.once.done.v = 0 ∧ y.once.m.mu.state = 1 ∧ y.once.m.mu.sema = se ∧ y.calls.v = c ∧ y.table.length = 256) (some y.table)))))

def m___digest_Engine__Crc (F : Nat) : Option (List Int × Int) :=
  (m_once F 0 0 0 (List.replicate 256 0) 1).bind (fun y6 => grd (135 < y6.length) (some (y6, (ixor .u32 4294967295 (ixor .u32 16777215 (y6.getD 135 0))))))

def m_cmp_isNaN_int_ (F : Nat) : Option (Unit) :=
  some ()

def m_cmp_isNaN_int__2 (F : Nat) : Option (Unit) :=
  some ()

def m_cmp_Compare_int_ (F : Nat) : Option (Unit) :=
  (m_cmp_isNaN_int_ F).bind (fun y3 => (m_cmp_isNaN_int__2 F).bind (fun y6 => some ()))

def m_pglog_Cmp (F : Nat) : Option (Unit) :=
  (m_cmp_Compare_int_ F).bind (fun y3 => some ())

def m_pglog_Copy_2 (F : Nat) : Option (Unit) :=
  some ()

def m_slices_BinarySearchFunc___api_Last_api_Last_int_ (F : Nat) : Option (Unit) :=
  some ()

def m_pglog_look_api_Last_int_ (F : Nat) : Option (Unit) :=
  (m_slices_BinarySearchFunc___api_Last_api_Last_int_ F).bind (fun y3 => some ())

def m_slices_Insert___api_Last_api_Last_ (F : Nat) : Option (Unit) :=
  some ()

def m_slices_BinarySearchFunc___api_Item_api_Item_string_ (F : Nat) : Option (Unit) :=
  some ()

def m_pglog_look_api_Item_string_ (F : Nat) : Option (Unit) :=
  (m_slices_BinarySearchFunc___api_Item_api_Item_string_ F).bind (fun y3 => some ())

def m_slices_Insert___api_Item_api_Item_ (F : Nat) (a : Int) : Option (Int) :=
  some a

def m_pglog_Append (F : Nat) (a2 : Int) : Option (Int) :=
  (m_pglog_Find F).bind (fun y3 => (m_pglog_Head F).bind (fun y6 => (m_pglog_Cmp F).bind (fun y8 => (m_place_Good F).bind (fun b => (m_pglog_Copy_2 F).bind (fun c => (m_pglog_look_api_Last_int_ F).bind (fun d => (m_slices_Insert___api_Last_api_Last_ F).bind (fun e => (m_pglog_look_api_Item_string_ F).bind (fun f => (m_slices_Insert___api_Item_api_Item_ F a2).bind (fun a => some a)))))))))

def m_pglog_Copy_3 (F : Nat) (a : Int) : Option (Int) :=
  some a

def m_pglog_Trim (F : Nat) (a : Int) : Option (Int) :=
  (m_pglog_Copy_3 F a).bind (fun y3 => some y3)

def m_primary_copied (F : Nat) : Option (Unit) :=
  (m_slices_Clone___byte_byte_ F).bind (fun y3 => some ())

def m___primary_Machine__stored (F : Nat) (a : Int) : Option (Int) :=
  (m_pglog_Copy_3 F a).bind (fun y3 => (m_primary_copied F).bind (fun b => some y3))

def m___primary_Machine__to (F : Nat) (a : Int) : Option (Unit) :=
  some ()

def m___primary_Machine__ask (F : Nat) (a : Int) : Option (Unit) :=
  (m_primary_copied F).bind (fun y5 => (m___primary_Machine__to F a).bind (fun y9 => some ()))

def m___primary_Machine__done (F : Nat) (a b : Int) : Option (Unit) :=
  some ()

def m___primary_Machine__write (F : Nat) : Option (Int × Int) :=
  (m_pglog_Seen F).bind (fun y3 => (m_primary_Verdict F).bind (fun y9 => (m_primary_Next F).bind (fun e => (m_slices_Clone___int_int_ F).bind (fun f => (m_slices_Clone___byte_byte_ F).bind (fun g => (m_digest_New F).bind (fun h => (m___digest_Engine__Crc F).bind (fun c => (m_pglog_Append F c.2).bind (fun d => (m_pglog_Trim F d).bind (fun a => (m___primary_Machine__stored F a).bind (fun b => (m___primary_Machine__ask F a).bind (fun i => (m___primary_Machine__done F a b).bind (fun j => some (a, b)))))))))))))

def m___primary_Machine__begin (F : Nat) : Option (Int × Int) :=
  (m___primary_Machine__write F).bind (fun y9 => some (y9.1, y9.2))

def m___primary_Machine__request (F : Nat) : Option (Int × Int) :=
  (m_slices_ContainsFunc___api_Msg_api_Msg_ F).bind (fun y6 => (m_slices_Clone___byte_byte_ F).bind (fun y9 => (m___primary_Machine__begin F).bind (fun a => some (a.1, a.2))))

def m___primary_Machine__Step (F : Nat) : Option (Int × Int) :=
  (m___primary_Machine__request F).bind (fun y6 => some (y6.1, y6.2))

def m___primary_Machine__Idle (F : Nat) (a : Int) : Option (Unit) :=
  some ()

def m_slices_Index___int_int__2 (F : Nat) : Option (Unit) :=
  some ()

def m_slices_Delete___int_int_ (F : Nat) : Option (Unit) :=
  some ()

def m___primary_Machine__to_2 (F : Nat) (a : Int) : Option (Unit) :=
  some ()

def m___primary_Machine__answer (F : Nat) (a : Int) : Option (Unit) :=
  (m___primary_Machine__to_2 F a).bind (fun y4 => some ())

def m___primary_Machine__done_2 (F : Nat) (a : Int) : Option (Unit) :=
  (m___primary_Machine__answer F a).bind (fun b => some ())

def m___primary_Machine__begin_2 (F : Nat) (a : Int) : Option (Unit) :=
  some ()

def m___primary_Machine__acked (F : Nat) (a : Int) : Option (Unit) :=
  (m_slices_Index___int_int__2 F).bind (fun y5 => (m_slices_Delete___int_int_ F).bind (fun b => (m___primary_Machine__done_2 F a).bind (fun c => (m___primary_Machine__begin_2 F a).bind (fun d => some ()))))

def m___primary_Machine__Step_2 (F : Nat) (a : Int) : Option (Unit) :=
  (m___primary_Machine__acked F a).bind (fun y7 => some ())

def m___primary_Machine__Idle_2 (F : Nat) (a : Int) : Option (Unit) :=
  some ()

def m_tholelaw18_lives (F : Nat) : Option (Unit) :=
  (m_primary_New F).bind (fun y3 => (m___primary_Machine__Step F).bind (fun a => (m___primary_Machine__Idle F a.1).bind (fun b => (m___primary_Machine__Step_2 F a.1).bind (fun c => (m___primary_Machine__Idle_2 F a.1).bind (fun d => some ())))))

def m_slices_Index___int_int__3 (F : Nat) (a0 : List Int) (a1 : Int) : Option (Int) :=
  grd (Len a0.length) (loopL (fun (b : Unit → Option (Int)) (a : Nat) (c : Int) (_ : Unit) => (bif a1 == c then some (a : Int) else b ())) (fun (a : Nat) (_ : Unit) => some (-1)) a0 0 ())

def m_slices_Contains___int_int__2 (F : Nat) (a0 : List Int) (a1 : Int) : Option (Bool) :=
  (m_slices_Index___int_int__3 F a0 a1).bind (fun y3 => some (decide (y3 ≥ 0)))

def m_pglog_below_2 (F : Nat) (a0 : S_api_Version) : Option (Bool) :=
  (bif decide (a0.Epoch < 0) then some true else some (decide (a0.N < 0)))

def m_cmp_isNaN_int__3 (F : Nat) (a0 : Int) : Option (Bool) :=
  some (a0 != a0)

def m_cmp_Compare_int__2 (F : Nat) (a0 a1 : Int) : Option (Int) :=
  (m_cmp_isNaN_int__3 F a0).bind (fun y3 => (m_cmp_isNaN_int__3 F a1).bind (fun y6 => (bif y3 then (bif y6 then some 0 else some (-1)) else (bif y6 then some 1 else (bif decide (a0 < a1) then some (-1) else (bif decide (a0 > a1) then some 1 else some 0))))))

def m_pglog_Cmp_2 (F : Nat) (a0 a1 : S_api_Version) : Option (Int) :=
  (m_cmp_Compare_int__2 F a0.Epoch a1.Epoch).bind (fun y3 => (bif y3 != 0 then some y3 else (m_cmp_Compare_int__2 F a0.N a1.N).bind (fun y9 => some y9)))

def m_pglog_itemName (F : Nat) (a0 : S_api_Item) : Option (ByteArray) :=
  some a0.Name

def m_pglog_rising_api_Item_string__2 (F : Nat) (a0 : List S_api_Item) : Option (Bool) :=
  grd (Len a0.length) (loopL (fun (b : Unit → Option (Bool)) (a : Nat) (c : S_api_Item) (_ : Unit) => grd (I64 ((a : Int) - 1)) (grd (Ix ((a : Int) - 1) a0.length) ((m_pglog_itemName F (a0.getD (Int.toNat ((a : Int) - 1)) dS_api_Item)).bind (fun d => (m_pglog_itemName F c).bind (fun e => (bif !(Op.bytesLess d.toList e.toList) then some false else b ())))))) (fun (a : Nat) (_ : Unit) => some true) (a0.drop 1) 1 ())

def m_pglog_lastClient (F : Nat) (a0 : S_api_Last) : Option (Int) :=
  some a0.Client

def m_pglog_rising_api_Last_int__2 (F : Nat) (a0 : List S_api_Last) : Option (Bool) :=
  grd (Len a0.length) (loopL (fun (b : Unit → Option (Bool)) (a : Nat) (c : S_api_Last) (_ : Unit) => grd (I64 ((a : Int) - 1)) (grd (Ix ((a : Int) - 1) a0.length) ((m_pglog_lastClient F (a0.getD (Int.toNat ((a : Int) - 1)) dS_api_Last)).bind (fun d => (m_pglog_lastClient F c).bind (fun e => (bif decide (d ≥ e) then some false else b ())))))) (fun (a : Nat) (_ : Unit) => some true) (a0.drop 1) 1 ())

def m_place_Good_2 (F : Nat) (a0 : ByteArray) : Option (Bool) :=
  grd ((a0.size : Int) ≤ 9223372036854775807) (loopC (fun (c : Unit → Option (Bool)) (a : Nat) (_ : Unit) => grd (a < a0.size) (jn (fun (b : Bool) => (bif b then some false else c ())) (fun (d : Bool → Option (Bool)) => (bif decide ((((a0.data.getD a 0).toNat : Nat) : Int) < 33) then d (decide ((((a0.data.getD a 0).toNat : Nat) : Int) < 33)) else d (decide ((((a0.data.getD a 0).toNat : Nat) : Int) > 126)))))) (fun (a : Nat) (_ : Unit) => (bif !(a0.toList == (ByteArray.mk #[]).toList) then some (decide ((a0.size : Int) ≤ 64)) else some false)) (Int.toNat ((a0.size : Int) - (0 : Int))) 0 ())

def m_pglog_Check_2 (F : Nat) (j : Int) (e : S_api_Version) (f : List S_api_Entry) (b : List S_api_Last) (a : List S_api_Item) : Option (Int) :=
  jn (fun (p : Bool) => (bif p then some 22 else grd (Len f.length) (loopL (fun (w : Int × Int → Option (Int)) (q : Nat) (k : S_api_Entry) (x : Int × Int) => match x with | (c, d) => jn (fun (r : Bool) => (bif r then some 22 else w (k.Version.Epoch, k.Version.N))) (fun (y : Bool → Option (Int)) => (m_pglog_below_2 F k.Version).bind (fun H => (bif H then y true else (m_pglog_Cmp_2 F k.Version (S_api_Version.mk c d)).bind (fun I => y (decide (I ≤ 0))))))) (fun (q : Nat) (z : Int × Int) => match z with | (c, d) => jn (fun (s : Bool) => (bif s then some 22 else grd (Len a.length) (loopL (fun (t : Unit → Option (Int)) (u : Nat) (g : S_api_Item) (_ : Unit) => jn (fun (l : Bool) => (bif l then some 22 else t ())) (fun (h : Bool → Option (Int)) => (m_place_Good_2 F g.Name).bind (fun A => (bif !A then h true else (m_pglog_below_2 F g.Version).bind (fun B => (bif B then h true else (bif S_api_Version.beq g.Version (S_api_Version.mk 0 0) then h true else (m_pglog_Cmp_2 F g.Version (S_api_Version.mk c d)).bind (fun C => h (decide (C > 0)))))))))) (fun (u : Nat) (_ : Unit) => grd (Len b.length) (loopL (fun (v : Unit → Option (Int)) (m : Nat) (n : S_api_Last) (_ : Unit) => jn (fun (i : Bool) => (bif i then some 22 else v ())) (fun (o : Bool → Option (Int)) => (m_pglog_below_2 F n.Version).bind (fun D => (bif D then o true else (m_pglog_Cmp_2 F n.Version (S_api_Version.mk c d)).bind (fun E => o (decide (E > 0))))))) (fun (m : Nat) (_ : Unit) => some 0) b 0 ())) a 0 ()))) (fun (G : Bool → Option (Int)) => (m_pglog_rising_api_Item_string__2 F a).bind (fun J => (bif !J then G true else (m_pglog_rising_api_Last_int__2 F b).bind (fun K => G (!K)))))) f 0 (e.Epoch, e.N)))) (fun (J7 : Bool → Option (Int)) => (bif decide (j < 0) then J7 true else (m_pglog_below_2 F e).bind (fun y4 => (bif y4 then J7 true else J7 (decide ((a.length : Int) > 32))))))

def m_pglog_Copy_4 (F : Nat) (e : Int) (d : S_api_Version) (c : List S_api_Entry) (a : List S_api_Last) (b : List S_api_Item) : Option (Int × S_api_Version × List S_api_Entry × List S_api_Last × List S_api_Item) :=
  grd (App c.length 64) (grd (App a.length 40) (grd (App b.length 40) (some (e, d, c, a, b))))

def m_primary_New_2 (F : Nat) (q r a1 a2 a3 : Int) (a4 : List Int) (e f g : Int) (h : List S_api_Entry) (i : List S_api_Last) (j : List S_api_Item) : Option (Nat × Unit × (List Int × Int × Int × Int × List S_api_Entry × List S_api_Last × List S_api_Item) × (Int × Int × Int × List S_api_Entry × List S_api_Last × List S_api_Item)) :=
  jn (fun (o : Bool) => (bif o then some (0, (), ([], 0, 0, 0, [], [], []), (0, 0, 0, [], [], [])) else grd (Len a4.length) (loopL (fun (p : Unit → Option (Nat × Unit × (List Int × Int × Int × Int × List S_api_Entry × List S_api_Last × List S_api_Item) × (Int × Int × Int × List S_api_Entry × List S_api_Last × List S_api_Item))) (d : Nat) (n : Int) (_ : Unit) => (bif n != a2 then loopL (fun (k : List Int → Option (Nat × Unit × (List Int × Int × Int × Int × List S_api_Entry × List S_api_Last × List S_api_Item) × (Int × Int × Int × List S_api_Entry × List S_api_Last × List S_api_Item))) (m : Nat) (l : Int) (a : List Int) => (bif l != a2 then grd (App (a.length + [l].length) 8) (k (a ++ [l])) else k a)) (fun (m : Nat) (a : List Int) => (m_pglog_Copy_4 F e (S_api_Version.mk f g) h i j).bind (fun b => some (1, (), (a, b.1, b.2.1.Epoch, b.2.1.N, b.2.2.1, b.2.2.2.1, b.2.2.2.2), (0, 0, 0, [], [], [])))) (a4.drop (d + 1)) (d + 1) [n] else p ())) (fun (d : Nat) (_ : Unit) => (m_pglog_Copy_4 F e (S_api_Version.mk f g) h i j).bind (fun c => some (2, (), ([], 0, 0, 0, [], [], []), (c.1, c.2.1.Epoch, c.2.1.N, c.2.2.1, c.2.2.2.1, c.2.2.2.2)))) a4 0 ()))) (fun (J8 : Bool → Option (Nat × Unit × (List Int × Int × Int × Int × List S_api_Entry × List S_api_Last × List S_api_Item) × (Int × Int × Int × List S_api_Entry × List S_api_Last × List S_api_Item))) => (m_slices_Contains___int_int__2 F a4 a2).bind (fun y3 => (bif !y3 then J8 true else (m_pglog_Check_2 F e (S_api_Version.mk f g) h i j).bind (fun y6 => J8 (y6 != 0)))))

def m_slices_IndexFunc___api_Msg_api_Msg__2 (F : Nat) (a1c0_4 a1c0_7 a1c0_8 a1c0_10 : Int) : Option (Unit) :=
  some ()

def m_slices_ContainsFunc___api_Msg_api_Msg__2 (F : Nat) (a1c0_4 a1c0_7 a1c0_8 a1c0_10 : Int) : Option (Unit) :=
  (m_slices_IndexFunc___api_Msg_api_Msg__2 F a1c0_4 a1c0_7 a1c0_8 a1c0_10).bind (fun y3 => some ())

def m_slices_Clone___byte_byte__2 (F : Nat) : Option (Unit) :=
  some ()

def m_slices_Clone___int_int__2 (F : Nat) (a0 : List Int) : Option (List Int) :=
  grd (App (([] : List Int).length + a0.length) 8) (some (([] : List Int) ++ a0))

def m___primary_Machine__to_3 (F : Nat) (h i j k l : Int) (m : List Int) (n o p : Int) (q : List S_api_Entry) (d : List S_api_Last) (e : List S_api_Item) (a b : Int) (c : List Int) (f a1 g : Int) : Option (Unit) :=
  some ()

def m___primary_Machine__ask_2 (F : Nat) (g h i j k : Int) (l : List Int) (m n o : Int) (p : List S_api_Entry) (d : List S_api_Last) (e : List S_api_Item) (b a : Int) (c : List Int) (f a1 : Int) : Option (Unit) :=
  (m___primary_Machine__to_3 F g h i j k l m n o p d e b a c f a1 a).bind (fun y5 => some ())

def m___primary_Machine__done_3 (F : Nat) (i j k l m : Int) (n : List Int) (o p q : Int) (r : List S_api_Entry) (d : List S_api_Last) (e : List S_api_Item) (b c : Int) (a : List Int) (f g : Int) (h : List S_api_Msg_n) : Option (Unit) :=
  grd ((decide ((a.length : Int) > 0)) = true) (some ())

def m___primary_Machine__read (F : Nat) (c d e f g : Int) (k : List Int) (l m n : Int) (o : List S_api_Entry) (h : List S_api_Last) (i : List S_api_Item) (a j p : Int) : Option (List S_api_Msg_n × Int × List Int) :=
  grd (I64 (a + 1)) ((m_slices_Clone___int_int__2 F k).bind (fun y5 => grd ((decide (0 < (y5.length : Int))) = true) (grd (0 < y5.length) ((m___primary_Machine__ask_2 F c d e f g k l m n o h i j (a + 1) y5 (a + 1) (y5.getD 0 0)).bind (fun t => grd (Len y5.length) (loopL (fun (s : List S_api_Msg_n → Option (List S_api_Msg_n × Int × List Int)) (q : Nat) (r : Int) (b : List S_api_Msg_n) => (m___primary_Machine__ask_2 F c d e f g k l m n o h i j (a + 1) y5 (a + 1) r).bind (fun u => grd (App (b.length + [(S_api_Msg_n.mk 34 2 f 2 r g e c d 0 (a + 1) 0 0 0 0 0 0 0 0 0 0 0 0 false 0 (ByteArray.mk #[]) 0 0 (ByteArray.mk #[]) 0 0 0 (ByteArray.mk #[]) 0 0 0)].length) 552) (s (b ++ [(S_api_Msg_n.mk 34 2 f 2 r g e c d 0 (a + 1) 0 0 0 0 0 0 0 0 0 0 0 0 false 0 (ByteArray.mk #[]) 0 0 (ByteArray.mk #[]) 0 0 0 (ByteArray.mk #[]) 0 0 0)])))) (fun (q : Nat) (b : List S_api_Msg_n) => (m___primary_Machine__done_3 F c d e f g k l m n o h i j (a + 1) y5 (a + 1) p b).bind (fun v => some (b, (a + 1), y5))) (y5.drop 1) 1 [(S_api_Msg_n.mk 34 2 f 2 (y5.getD 0 0) g e c d 0 (a + 1) 0 0 0 0 0 0 0 0 0 0 0 0 false 0 (ByteArray.mk #[]) 0 0 (ByteArray.mk #[]) 0 0 0 (ByteArray.mk #[]) 0 0 0)]))))))

def m___primary_Machine__begin_3 (F : Nat) (g h i j k : Int) (l : List Int) (m n o : Int) (p : List S_api_Entry) (b : List S_api_Last) (c : List S_api_Item) (a d e : Int) : Option (List S_api_Msg_n × Int × List Int) :=
  (m___primary_Machine__read F g h i j k l m n o p b c d a e).bind (fun f => some (f.1, f.2.1, f.2.2))

def m___primary_Machine__request_2 (F : Nat) (b c i d j : Int) (k : List Int) (l m n : Int) (o : List S_api_Entry) (e : List S_api_Last) (f : List S_api_Item) (g a : Int) : Option (List S_api_Msg_n × Int × List Int) :=
  (m_slices_ContainsFunc___api_Msg_api_Msg__2 F d b c a).bind (fun y6 => (m_slices_Clone___byte_byte__2 F).bind (fun y9 => (m___primary_Machine__begin_3 F b c i d j k l m n o e f a g 0).bind (fun h => some (h.1, h.2.1, h.2.2))))

def m___primary_Machine__Step_3 (F : Nat) (e f g h i : Int) (j : List Int) (k l m : Int) (n : List S_api_Entry) (a : List S_api_Last) (b : List S_api_Item) (c d : Int) : Option (List S_api_Msg_n × Int × List Int) :=
  (m___primary_Machine__request_2 F e f g h i j k l m n a b c d).bind (fun y6 => some (y6.1, y6.2.1, y6.2.2))

def m___primary_Machine__Idle_3 (F : Nat) (g h i j k : Int) (l : List Int) (m n o : Int) (p : List S_api_Entry) (d : List S_api_Last) (e : List S_api_Item) (a b : Int) (c : List Int) (f : Int) : Option (Unit) :=
  some ()

def m_slices_Delete___int_int__2 (F : Nat) (a0 : List Int) (a1 a2 : Int) : Option (List Int) :=
  grd (Bd a2 a0.length) (grd (Bd a1 (Int.toNat a2)) ((bif a1 == a2 then some a0 else grd (Bd a1 a0.length) (grd (App ((Int.toNat a1) + (a0.length - (Int.toNat a2))) 8) (grd ((Int.toNat a1) ≤ (Int.toNat a2)) (grd ((a0.take (Int.toNat a1) ++ a0.drop (Int.toNat a2)).length ≤ a0.length) (some (a0.take (Int.toNat a1) ++ a0.drop (Int.toNat a2)))))))))

def m___primary_Machine__to_4 (F : Nat) (i j k l m : Int) (n : List Int) (o p q : Int) (r : List S_api_Entry) (d : List S_api_Last) (e : List S_api_Item) (a b : Int) (c : List Int) (f g : Int) (h : List ByteArray) : Option (Unit) :=
  some ()

def m___primary_Machine__answer_2 (F : Nat) (i j k l m : Int) (n : List Int) (o p q : Int) (r : List S_api_Entry) (d : List S_api_Last) (e : List S_api_Item) (a b : Int) (c : List Int) (f g s : Int) (h : List ByteArray) : Option (Unit) :=
  (m___primary_Machine__to_4 F i j k l m n o p q r d e a b c f g h).bind (fun y4 => some ())

def m___primary_Machine__done_4 (F : Nat) (i j k l m : Int) (n : List Int) (o p q : Int) (r : List S_api_Entry) (f : List S_api_Last) (d : List S_api_Item) (b e : Int) (c : List Int) (g u : Int) : Option (Nat × Unit × List ByteArray) :=
  (bif decide ((c.length : Int) > 0) then some (0, (), []) else grd (Len d.length) (loopL (fun (s : List ByteArray → Option (Nat × Unit × List ByteArray)) (h : Nat) (t : S_api_Item) (a : List ByteArray) => grd (App (a.length + [t.Name].length) 16) (s (a ++ [t.Name]))) (fun (h : Nat) (a : List ByteArray) => (m___primary_Machine__answer_2 F i j k l m n o p q r f d b e c g b 0 a).bind (fun v => some (1, (), a))) d 0 ([] : List ByteArray)))

def m___primary_Machine__begin_4 (F : Nat) (h i j k l : Int) (m : List Int) (n o p : Int) (q : List S_api_Entry) (d : List S_api_Last) (e : List S_api_Item) (a b : Int) (c : List Int) (f g : Int) : Option (Unit) :=
  some ()

def m___primary_Machine__begin_5 (F : Nat) (g h i j k : Int) (l : List Int) (m n o : Int) (p : List S_api_Entry) (c : List S_api_Last) (d : List S_api_Item) (e f a : Int) (b : List ByteArray) : Option (Unit) :=
  some ()

def m___primary_Machine__acked_2 (F : Nat) (h i g j k : Int) (l : List Int) (m n o : Int) (p : List S_api_Entry) (d : List S_api_Last) (e : List S_api_Item) (a b : Int) (c : List Int) (f t u w x v y z r : Int) : Option (Nat × List Int × (List ByteArray × List Int)) :=
  grd ((v != g) = false) (grd ((t != 2) = false) ((m_slices_Index___int_int__3 F c u).bind (fun y8 => grd ((decide (y8 < 0)) = false) (grd ((!(r == b)) = false) (grd (I64 (y8 + 1)) ((m_slices_Delete___int_int__2 F c y8 (y8 + 1)).bind (fun q => (m___primary_Machine__done_4 F h i g j k l m n o p d e a b q f 0).bind (fun s => (bif (s.1 == 0) then (m___primary_Machine__begin_4 F h i g j k l m n o p d e a b q f 0).bind (fun A => some (0, q, ([], []))) else (m___primary_Machine__begin_5 F h i g j k l m n o p d e f 0 a s.2.2).bind (fun B => some (1, [], (s.2.2, q))))))))))))

def m___primary_Machine__Step_4 (F : Nat) (e f p g q : Int) (r : List Int) (s t u : Int) (v : List S_api_Entry) (l : List S_api_Last) (m : List S_api_Item) (a b : Int) (c : List Int) (n w x h i y j k o : Int) : Option (Nat × List Int × (List ByteArray × List Int)) :=
  grd ((!(S_api_Node.beq (S_api_Node.mk h i) (S_api_Node.mk 2 g))) = false) (grd ((!(S_api_Pg.beq (S_api_Pg.mk j k) (S_api_Pg.mk e f))) = false) ((m___primary_Machine__acked_2 F e f p g q r s t u v l m a b c n w x h i y j k o).bind (fun d => (bif (d.1 == 0) then some (0, d.2.1, ([], [])) else some (1, [], (d.2.2.1, d.2.2.2))))))

def m___primary_Machine__Idle_4 (F : Nat) (d e f g h : Int) (i : List Int) (j k l : Int) (m : List S_api_Entry) (a : List S_api_Last) (b : List S_api_Item) (c : Int) : Option (Unit) :=
  some ()

def m_slices_IndexFunc___api_Msg_api_Msg__3 (F : Nat) (a1c0_4 a1c0_7 a1c0_8 a1c0_10 : Int) : Option (Unit) :=
  some ()

def m_slices_ContainsFunc___api_Msg_api_Msg__3 (F : Nat) (a1c0_4 a1c0_7 a1c0_8 a1c0_10 : Int) : Option (Unit) :=
  (m_slices_IndexFunc___api_Msg_api_Msg__3 F a1c0_4 a1c0_7 a1c0_8 a1c0_10).bind (fun y3 => some ())

def m___primary_Machine__request_3 (F : Nat) (b c i d j : Int) (k : List Int) (l m n : Int) (o : List S_api_Entry) (e : List S_api_Last) (f : List S_api_Item) (g a : Int) : Option (List S_api_Msg_n × Int × List Int) :=
  (m_slices_ContainsFunc___api_Msg_api_Msg__3 F d b c a).bind (fun y6 => (m_slices_Clone___byte_byte__2 F).bind (fun y9 => (m___primary_Machine__begin_3 F b c i d j k l m n o e f a g 0).bind (fun h => some (h.1, h.2.1, h.2.2))))

def m___primary_Machine__Step_5 (F : Nat) (e f g h i : Int) (j : List Int) (k l m : Int) (n : List S_api_Entry) (a : List S_api_Last) (b : List S_api_Item) (c d : Int) : Option (List S_api_Msg_n × Int × List Int) :=
  (m___primary_Machine__request_3 F e f g h i j k l m n a b c d).bind (fun y6 => some (y6.1, y6.2.1, y6.2.2))

def m___primary_Machine__acked_3 (F : Nat) (M N f O P : Int) (Q : List Int) (R S T : Int) (U : List S_api_Entry) (j : List S_api_Last) (k : List S_api_Item) (e a : Int) (b : List Int) (l c g h V W X i Y Z aa d m n o p q r s t u v w x : Int) (y : Bool) (z : Int) (A : ByteArray) (B C : Int) (D : ByteArray) (E G H : Int) (I : ByteArray) (J K L : Int) : Option (Unit) :=
  grd ((i != f) = false) (grd ((g != 2) = false) ((m_slices_Index___int_int__3 F b h).bind (fun y8 => grd ((c == 33) = false) (grd ((c == 35) = true) (grd ((decide (y8 < 0)) = false) (grd ((!(d == a)) = true) (some ())))))))

def m___primary_Machine__Step_6 (F : Nat) (e f P g Q : Int) (R : List Int) (S T U : Int) (V : List S_api_Entry) (l : List S_api_Last) (m : List S_api_Item) (b c : Int) (d : List Int) (n a W X h i Y Z j k aa o p q r s t u v w x y z A : Int) (B : Bool) (C : Int) (D : ByteArray) (E G : Int) (H : ByteArray) (I J K : Int) (L : ByteArray) (M N O : Int) : Option (Unit) :=
  grd ((!(S_api_Node.beq (S_api_Node.mk h i) (S_api_Node.mk 2 g))) = false) (grd ((!(S_api_Pg.beq (S_api_Pg.mk j k) (S_api_Pg.mk e f))) = false) (grd ((a == 30) = false) (grd ((a == 33) = false) (grd ((a == 35) = true) ((m___primary_Machine__acked_3 F e f P g Q R S T U V l m b c d n a W X h i Y Z j k aa o p q r s t u v w x y z A B C D E G H I J K L M N O).bind (fun ab => some ()))))))

def m___primary_Machine__acked_4 (F : Nat) (e f g h i : Int) (j : List Int) (k l m : Int) (n : List S_api_Entry) (a : List S_api_Last) (b : List S_api_Item) (c o p q r s t u d : Int) : Option (Unit) :=
  some ()

def m___primary_Machine__Step_7 (F : Nat) (a b l c m : Int) (n : List Int) (o p q : Int) (r : List S_api_Entry) (h : List S_api_Last) (i : List S_api_Item) (j s t d e u f g k : Int) : Option (Unit) :=
  grd ((!(S_api_Node.beq (S_api_Node.mk d e) (S_api_Node.mk 2 c))) = false) (grd ((!(S_api_Pg.beq (S_api_Pg.mk f g) (S_api_Pg.mk a b))) = false) ((m___primary_Machine__acked_4 F a b l c m n o p q r h i j s t d e u f g k).bind (fun v => some ())))

def m_slices_Clone___int_int__3 (F : Nat) : Option (Unit) :=
  some ()

def m___primary_Machine__to_5 (F : Nat) (h i j k l m n o : Int) (p : List S_api_Entry) (c : List S_api_Last) (d : List S_api_Item) (a b e f : Int) (g : List ByteArray) : Option (Unit) :=
  some ()

def m___primary_Machine__answer_3 (F : Nat) (h i j k l m n o : Int) (p : List S_api_Entry) (c : List S_api_Last) (d : List S_api_Item) (a b e f q : Int) (g : List ByteArray) : Option (Unit) :=
  (m___primary_Machine__to_5 F h i j k l m n o p c d a b e f g).bind (fun y4 => some ())

def m___primary_Machine__done_5 (F : Nat) (h i j k l m n o : Int) (p : List S_api_Entry) (e : List S_api_Last) (c : List S_api_Item) (b d f s : Int) : Option (List ByteArray) :=
  grd (Len c.length) (loopL (fun (q : List ByteArray → Option (List ByteArray)) (g : Nat) (r : S_api_Item) (a : List ByteArray) => grd (App (a.length + [r.Name].length) 16) (q (a ++ [r.Name]))) (fun (g : Nat) (a : List ByteArray) => (m___primary_Machine__answer_3 F h i j k l m n o p e c b d f b 0 a).bind (fun t => some a)) c 0 ([] : List ByteArray))

def m___primary_Machine__read_2 (F : Nat) (f g h i j k l m : Int) (n : List S_api_Entry) (b : List S_api_Last) (c : List S_api_Item) (a d e : Int) : Option (List ByteArray × Int) :=
  grd (I64 (a + 1)) ((m_slices_Clone___int_int__3 F).bind (fun y5 => (m___primary_Machine__done_5 F f g h i j k l m n b c d (a + 1) (a + 1) e).bind (fun o => some (o, (a + 1)))))

def m___primary_Machine__begin_6 (F : Nat) (f g h i j k l m : Int) (n : List S_api_Entry) (b : List S_api_Last) (c : List S_api_Item) (a d e : Int) : Option (List ByteArray × Int) :=
  (m___primary_Machine__read_2 F f g h i j k l m n b c d a e).bind (fun o => some (o.1, o.2))

def m___primary_Machine__request_4 (F : Nat) (b c h d i j k l : Int) (m : List S_api_Entry) (e : List S_api_Last) (f : List S_api_Item) (g a : Int) : Option (List ByteArray × Int) :=
  (m_slices_ContainsFunc___api_Msg_api_Msg__2 F d b c a).bind (fun y6 => (m_slices_Clone___byte_byte__2 F).bind (fun y9 => (m___primary_Machine__begin_6 F b c h d i j k l m e f a g 0).bind (fun n => some (n.1, n.2))))

def m___primary_Machine__Step_8 (F : Nat) (e f g h i j k l : Int) (m : List S_api_Entry) (a : List S_api_Last) (b : List S_api_Item) (c d : Int) : Option (List ByteArray × Int) :=
  (m___primary_Machine__request_4 F e f g h i j k l m a b c d).bind (fun y6 => some (y6.1, y6.2))

def m___primary_Machine__Idle_5 (F : Nat) (d e f g h i j k : Int) (l : List S_api_Entry) (a : List S_api_Last) (b : List S_api_Item) (c : Int) : Option (Unit) :=
  some ()

def m_tholelaw18_PrimaryReads (F : Nat) (c : S_api_Pg) (d f g : Int) (k : List Int) (t : Int) (l : S_api_Version) (u : List S_api_Entry) (q : List S_api_Last) (r : List S_api_Item) (a1 : List Int) : Option (Bool) :=
  (m_tholelaw18_twice F k).bind (fun y3 => (bif y3 then (m_tholelaw18_lives F).bind (fun y7 => some true) else (m_primary_New_2 F c.Pool c.Seed d f g k t l.Epoch l.N u q r).bind (fun a => (bif (a.1 == 0) then (m_tholelaw18_lives F).bind (fun Y => some true) else (bif (a.1 == 1) then (m___primary_Machine__Step_3 F c.Pool c.Seed d f g a.2.2.1.1 a.2.2.1.2.1 a.2.2.1.2.2.1 a.2.2.1.2.2.2.1 a.2.2.1.2.2.2.2.1 a.2.2.1.2.2.2.2.2.1 a.2.2.1.2.2.2.2.2.2 0 1).bind (fun j => (bif (k.length : Int) == 1 then (bif (j.1.length : Int) == 1 then grd (0 < j.1.length) ((bif ((j.1.getD 0 dS_api_Msg_n).c0) == 31 then (m___primary_Machine__Idle_3 F c.Pool c.Seed d f g a.2.2.1.1 a.2.2.1.2.1 a.2.2.1.2.2.1 a.2.2.1.2.2.2.1 a.2.2.1.2.2.2.2.1 a.2.2.1.2.2.2.2.2.1 a.2.2.1.2.2.2.2.2.2 1 j.2.1 j.2.2 j.2.1).bind (fun Z => some false) else some false)) else some false) else grd (Len j.1.length) (loopL (fun (D : List S_api_Msg_n × List Int → Option (Bool)) (m : Nat) (b : S_api_Msg_n) (I : List S_api_Msg_n × List Int) => match I with | (h, v) => jn (fun (w : Bool) => (bif w then some false else grd (App (h.length + [(S_api_Msg_n.mk 35 b.c3 b.c4 b.c1 b.c2 0 b.c6 b.c7 b.c8 0 b.c10 0 0 0 0 0 0 0 0 0 0 0 0 false 0 (ByteArray.mk #[]) 0 0 (ByteArray.mk #[]) 0 0 0 (ByteArray.mk #[]) 0 0 0)].length) 552) ((m___primary_Machine__Step_4 F c.Pool c.Seed d f g a.2.2.1.1 a.2.2.1.2.1 a.2.2.1.2.2.1 a.2.2.1.2.2.2.1 a.2.2.1.2.2.2.2.1 a.2.2.1.2.2.2.2.2.1 a.2.2.1.2.2.2.2.2.2 1 j.2.1 v j.2.1 b.c3 b.c4 b.c1 b.c2 b.c6 b.c7 b.c8 b.c10).bind (fun A => (bif (A.1 == 0) then (bif !(false == (((m + 1 : Nat) : Int) == (j.1.length : Int))) then some false else D ((h ++ [(S_api_Msg_n.mk 35 b.c3 b.c4 b.c1 b.c2 0 b.c6 b.c7 b.c8 0 b.c10 0 0 0 0 0 0 0 0 0 0 0 0 false 0 (ByteArray.mk #[]) 0 0 (ByteArray.mk #[]) 0 0 0 (ByteArray.mk #[]) 0 0 0)]), A.2.1)) else (bif !(true == (((m + 1 : Nat) : Int) == (j.1.length : Int))) then some false else (bif decide (((m + 1 : Nat) : Int) < (j.1.length : Int)) then grd ((m + 1) < j.1.length) ((bif ((j.1.getD (m + 1) dS_api_Msg_n).c0) != 34 then some false else (bif ((j.1.getD (m + 1) dS_api_Msg_n).c10) != 1 then some false else (m___primary_Machine__Idle_4 F c.Pool c.Seed d f g a.2.2.1.1 a.2.2.1.2.1 a.2.2.1.2.2.1 a.2.2.1.2.2.2.1 a.2.2.1.2.2.2.2.1 a.2.2.1.2.2.2.2.2.1 a.2.2.1.2.2.2.2.2.2 j.2.1).bind (fun L => some false)))) else (m___primary_Machine__Idle_4 F c.Pool c.Seed d f g a.2.2.1.1 a.2.2.1.2.1 a.2.2.1.2.2.1 a.2.2.1.2.2.2.1 a.2.2.1.2.2.2.2.1 a.2.2.1.2.2.2.2.2.1 a.2.2.1.2.2.2.2.2.2 j.2.1).bind (fun M => (m___primary_Machine__Step_5 F c.Pool c.Seed d f g a.2.2.1.1 a.2.2.1.2.1 a.2.2.1.2.2.1 a.2.2.1.2.2.2.1 a.2.2.1.2.2.2.2.1 a.2.2.1.2.2.2.2.2.1 a.2.2.1.2.2.2.2.2.2 j.2.1 2).bind (fun i => grd (Len a1.length) (loopL (fun (E : Unit → Option (Bool)) (x : Nat) (B : Int) (_ : Unit) => grd ((IntKind.u64.wrap (((h ++ [(S_api_Msg_n.mk 35 b.c3 b.c4 b.c1 b.c2 0 b.c6 b.c7 b.c8 0 b.c10 0 0 0 0 0 0 0 0 0 0 0 0 false 0 (ByteArray.mk #[]) 0 0 (ByteArray.mk #[]) 0 0 0 (ByteArray.mk #[]) 0 0 0)]).length : Nat) : Int)) ≠ 0) (grd (Ix (IntKind.i64.wrap (Int.tmod B (IntKind.u64.wrap (((h ++ [(S_api_Msg_n.mk 35 b.c3 b.c4 b.c1 b.c2 0 b.c6 b.c7 b.c8 0 b.c10 0 0 0 0 0 0 0 0 0 0 0 0 false 0 (ByteArray.mk #[]) 0 0 (ByteArray.mk #[]) 0 0 0 (ByteArray.mk #[]) 0 0 0)]).length : Nat) : Int)))) (h ++ [(S_api_Msg_n.mk 35 b.c3 b.c4 b.c1 b.c2 0 b.c6 b.c7 b.c8 0 b.c10 0 0 0 0 0 0 0 0 0 0 0 0 false 0 (ByteArray.mk #[]) 0 0 (ByteArray.mk #[]) 0 0 0 (ByteArray.mk #[]) 0 0 0)]).length) ((some ((h ++ [(S_api_Msg_n.mk 35 b.c3 b.c4 b.c1 b.c2 0 b.c6 b.c7 b.c8 0 b.c10 0 0 0 0 0 0 0 0 0 0 0 0 false 0 (ByteArray.mk #[]) 0 0 (ByteArray.mk #[]) 0 0 0 (ByteArray.mk #[]) 0 0 0)]).getD (Int.toNat (IntKind.i64.wrap (Int.tmod B (IntKind.u64.wrap (((h ++ [(S_api_Msg_n.mk 35 b.c3 b.c4 b.c1 b.c2 0 b.c6 b.c7 b.c8 0 b.c10 0 0 0 0 0 0 0 0 0 0 0 0 false 0 (ByteArray.mk #[]) 0 0 (ByteArray.mk #[]) 0 0 0 (ByteArray.mk #[]) 0 0 0)]).length : Nat) : Int))))) dS_api_Msg_n)).bind (fun e => (m___primary_Machine__Step_6 F c.Pool c.Seed d f g a.2.2.1.1 a.2.2.1.2.1 a.2.2.1.2.2.1 a.2.2.1.2.2.2.1 a.2.2.1.2.2.2.2.1 a.2.2.1.2.2.2.2.2.1 a.2.2.1.2.2.2.2.2.2 2 i.2.1 i.2.2 i.2.1 e.c0 e.c1 e.c2 e.c3 e.c4 e.c5 e.c6 e.c7 e.c8 e.c9 e.c10 e.c11 e.c15 e.c16 e.c17 e.c18 e.c19 e.c20 e.c21 e.c22 e.c23 e.c27 e.c28 e.c29 e.c30 e.c31 e.c32 e.c33 e.c34 e.c35 e.c36 e.c38 e.c39 e.c41 e.c42 e.c45).bind (fun O => (m___primary_Machine__Idle_3 F c.Pool c.Seed d f g a.2.2.1.1 a.2.2.1.2.1 a.2.2.1.2.2.1 a.2.2.1.2.2.2.1 a.2.2.1.2.2.2.2.1 a.2.2.1.2.2.2.2.2.1 a.2.2.1.2.2.2.2.2.2 2 i.2.1 i.2.2 i.2.1).bind (fun P => E ())))))) (fun (x : Nat) (_ : Unit) => grd (Len i.1.length) (loopL (fun (G : List Int → Option (Bool)) (s : Nat) (o : S_api_Msg_n) (n : List Int) => (bif o.c10 != 2 then some false else (m___primary_Machine__Step_4 F c.Pool c.Seed d f g a.2.2.1.1 a.2.2.1.2.1 a.2.2.1.2.2.1 a.2.2.1.2.2.2.1 a.2.2.1.2.2.2.2.1 a.2.2.1.2.2.2.2.2.1 a.2.2.1.2.2.2.2.2.2 2 i.2.1 n i.2.1 o.c3 o.c4 o.c1 o.c2 o.c6 o.c7 o.c8 o.c10).bind (fun C => (bif (C.1 == 0) then G C.2.1 else loopL (fun (H : Unit → Option (Bool)) (y : Nat) (p : S_api_Msg_n) (_ : Unit) => (bif p.c10 != 2 then some false else (m___primary_Machine__Step_7 F c.Pool c.Seed d f g a.2.2.1.1 a.2.2.1.2.1 a.2.2.1.2.2.1 a.2.2.1.2.2.2.1 a.2.2.1.2.2.2.2.1 a.2.2.1.2.2.2.2.2.1 a.2.2.1.2.2.2.2.2.2 i.2.1 p.c3 p.c4 p.c1 p.c2 p.c6 p.c7 p.c8 p.c10).bind (fun Q => H ()))) (fun (y : Nat) (_ : Unit) => (m___primary_Machine__Idle_4 F c.Pool c.Seed d f g a.2.2.1.1 a.2.2.1.2.1 a.2.2.1.2.2.1 a.2.2.1.2.2.2.1 a.2.2.1.2.2.2.2.1 a.2.2.1.2.2.2.2.2.1 a.2.2.1.2.2.2.2.2.2 i.2.1).bind (fun R => (m_tholelaw18_lives F).bind (fun S => some true))) (i.1.drop (s + 1)) (s + 1) ())))) (fun (s : Nat) (n : List Int) => (m___primary_Machine__Idle_3 F c.Pool c.Seed d f g a.2.2.1.1 a.2.2.1.2.1 a.2.2.1.2.2.1 a.2.2.1.2.2.2.1 a.2.2.1.2.2.2.2.1 a.2.2.1.2.2.2.2.2.1 a.2.2.1.2.2.2.2.2.2 2 i.2.1 n i.2.1).bind (fun T => some false)) i.1 0 i.2.2)) a1 0 ())))))))))) (fun (z : Bool → Option (Bool)) => (bif b.c0 != 34 then z true else (bif b.c10 != 1 then z true else (m___primary_Machine__Idle_3 F c.Pool c.Seed d f g a.2.2.1.1 a.2.2.1.2.1 a.2.2.1.2.2.1 a.2.2.1.2.2.2.1 a.2.2.1.2.2.2.2.1 a.2.2.1.2.2.2.2.2.1 a.2.2.1.2.2.2.2.2.2 1 j.2.1 v j.2.1).bind (fun U => z false))))) (fun (m : Nat) (J : List S_api_Msg_n × List Int) => match J with | (h, v) => (m___primary_Machine__Idle_3 F c.Pool c.Seed d f g a.2.2.1.1 a.2.2.1.2.1 a.2.2.1.2.2.1 a.2.2.1.2.2.2.1 a.2.2.1.2.2.2.2.1 a.2.2.1.2.2.2.2.2.1 a.2.2.1.2.2.2.2.2.2 1 j.2.1 v j.2.1).bind (fun V => some false)) j.1 0 (([] : List S_api_Msg_n), j.2.2)))) else (m___primary_Machine__Step_8 F c.Pool c.Seed d f g a.2.2.2.1 a.2.2.2.2.1 a.2.2.2.2.2.1 a.2.2.2.2.2.2.1 a.2.2.2.2.2.2.2.1 a.2.2.2.2.2.2.2.2 0 1).bind (fun K => (bif (k.length : Int) == 1 then (m___primary_Machine__Idle_5 F c.Pool c.Seed d f g a.2.2.2.1 a.2.2.2.2.1 a.2.2.2.2.2.1 a.2.2.2.2.2.2.1 a.2.2.2.2.2.2.2.1 a.2.2.2.2.2.2.2.2 K.2).bind (fun W => (m_tholelaw18_lives F).bind (fun X => some true)) else some false)))))))

end Go.Proofs.Ytjnbkhnebmlilaa
