/-
  CHAPTER 18o: the models of its functions.
-/
import Derived.Test.YtjnbkhnebmlilaaGreatProg
import Derived.Test.YtjnbkhnebmlilaaGreatGxo
set_option linter.unusedVariables false
set_option linter.unusedSimpArgs false
set_option maxRecDepth 100000
namespace Go.Proofs.YtjnbkhnebmlilaaGreat
open Go Go.RowKit Sx

structure S_api_Version where
  Epoch : Int
  N : Int
def S_api_Version.row (x : S_api_Version) : List Value := [.int .i64 x.Epoch, .int .i64 x.N]
def dS_api_Version : S_api_Version := S_api_Version.mk 0 0
def S_api_Version.beq (x y : S_api_Version) : Bool := (x.Epoch == y.Epoch) && ((x.N == y.N) && true)
theorem S_api_Version.beq_iff (x y : S_api_Version) : S_api_Version.beq x y = true ↔ x = y := by
  cases x; cases y; simp [S_api_Version.beq, str_beq]

structure S_api_Entry where
  Version : S_api_Version
  Remove : Bool
  Errno : Int
  Name : ByteArray
  Client : Int
  Number : Int
def S_api_Entry.row (x : S_api_Entry) : List Value := [.int .i64 x.Version.Epoch, .int .i64 x.Version.N, .bool x.Remove, .int .i64 x.Errno, .string x.Name, .int .i64 x.Client, .int .i64 x.Number]
def dS_api_Entry : S_api_Entry := S_api_Entry.mk dS_api_Version false 0 (ByteArray.mk #[]) 0 0
def S_api_Entry.beq (x y : S_api_Entry) : Bool := (S_api_Version.beq x.Version y.Version) && ((x.Remove == y.Remove) && ((x.Errno == y.Errno) && ((x.Name == y.Name) && ((x.Client == y.Client) && ((x.Number == y.Number) && true)))))
theorem S_api_Entry.beq_iff (x y : S_api_Entry) : S_api_Entry.beq x y = true ↔ x = y := by
  cases x; cases y; simp [S_api_Entry.beq, str_beq, S_api_Version.beq_iff]

structure S_api_Last where
  Client : Int
  Number : Int
  Errno : Int
  Version : S_api_Version
def S_api_Last.row (x : S_api_Last) : List Value := [.int .i64 x.Client, .int .i64 x.Number, .int .i64 x.Errno, .int .i64 x.Version.Epoch, .int .i64 x.Version.N]
def dS_api_Last : S_api_Last := S_api_Last.mk 0 0 0 dS_api_Version
def S_api_Last.beq (x y : S_api_Last) : Bool := (x.Client == y.Client) && ((x.Number == y.Number) && ((x.Errno == y.Errno) && ((S_api_Version.beq x.Version y.Version) && true)))
theorem S_api_Last.beq_iff (x y : S_api_Last) : S_api_Last.beq x y = true ↔ x = y := by
  cases x; cases y; simp [S_api_Last.beq, str_beq, S_api_Version.beq_iff]

structure S_api_Item where
  Name : ByteArray
  Version : S_api_Version
  Crc : Int
def S_api_Item.row (x : S_api_Item) : List Value := [.string x.Name, .int .i64 x.Version.Epoch, .int .i64 x.Version.N, .int .u32 x.Crc]
def dS_api_Item : S_api_Item := S_api_Item.mk (ByteArray.mk #[]) dS_api_Version 0
def S_api_Item.beq (x y : S_api_Item) : Bool := (x.Name == y.Name) && ((S_api_Version.beq x.Version y.Version) && ((x.Crc == y.Crc) && true))
theorem S_api_Item.beq_iff (x y : S_api_Item) : S_api_Item.beq x y = true ↔ x = y := by
  cases x; cases y; simp [S_api_Item.beq, str_beq, S_api_Version.beq_iff]

structure S_api_Node where
  Kind : Int
  Id : Int
def S_api_Node.row (x : S_api_Node) : List Value := [.int .i64 x.Kind, .int .i64 x.Id]
def S_api_Node.beq (x y : S_api_Node) : Bool := (x.Kind == y.Kind) && ((x.Id == y.Id) && true)
theorem S_api_Node.beq_iff (x y : S_api_Node) : S_api_Node.beq x y = true ↔ x = y := by
  cases x; cases y; simp [S_api_Node.beq, str_beq]

structure S_api_Pg where
  Pool : Int
  Seed : Int
def S_api_Pg.row (x : S_api_Pg) : List Value := [.int .i64 x.Pool, .int .i64 x.Seed]
def S_api_Pg.beq (x y : S_api_Pg) : Bool := (x.Pool == y.Pool) && ((x.Seed == y.Seed) && true)
theorem S_api_Pg.beq_iff (x y : S_api_Pg) : S_api_Pg.beq x y = true ↔ x = y := by
  cases x; cases y; simp [S_api_Pg.beq, str_beq]

structure S_sync_noCopy where
def S_sync_noCopy.row (x : S_sync_noCopy) : List Value := []
def S_sync_noCopy.beq (x y : S_sync_noCopy) : Bool := true
theorem S_sync_noCopy.beq_iff (x y : S_sync_noCopy) : S_sync_noCopy.beq x y = true ↔ x = y := by
  cases x; cases y; simp [S_sync_noCopy.beq]

structure S_atomic_noCopy where
def S_atomic_noCopy.row (x : S_atomic_noCopy) : List Value := []
def S_atomic_noCopy.beq (x y : S_atomic_noCopy) : Bool := true
theorem S_atomic_noCopy.beq_iff (x y : S_atomic_noCopy) : S_atomic_noCopy.beq x y = true ↔ x = y := by
  cases x; cases y; simp [S_atomic_noCopy.beq]

structure S_atomic_Bool where
  __ : S_atomic_noCopy
  v : Int
def S_atomic_Bool.row (x : S_atomic_Bool) : List Value := [.int .u32 x.v]
def S_atomic_Bool.beq (x y : S_atomic_Bool) : Bool := (S_atomic_noCopy.beq x.__ y.__) && ((x.v == y.v) && true)
theorem S_atomic_Bool.beq_iff (x y : S_atomic_Bool) : S_atomic_Bool.beq x y = true ↔ x = y := by
  cases x; cases y; simp [S_atomic_Bool.beq, str_beq, S_atomic_noCopy.beq_iff]

structure S_sync_Mutex where
  state : Int
  sema : Int
def S_sync_Mutex.row (x : S_sync_Mutex) : List Value := [.int .i32 x.state, .int .u32 x.sema]
def S_sync_Mutex.beq (x y : S_sync_Mutex) : Bool := (x.state == y.state) && ((x.sema == y.sema) && true)
theorem S_sync_Mutex.beq_iff (x y : S_sync_Mutex) : S_sync_Mutex.beq x y = true ↔ x = y := by
  cases x; cases y; simp [S_sync_Mutex.beq, str_beq]

structure S_sync_Mutex' where
  __ : S_sync_noCopy
  mu : S_sync_Mutex
def S_sync_Mutex'.row (x : S_sync_Mutex') : List Value := [.int .i32 x.mu.state, .int .u32 x.mu.sema]
def S_sync_Mutex'.beq (x y : S_sync_Mutex') : Bool := (S_sync_noCopy.beq x.__ y.__) && ((S_sync_Mutex.beq x.mu y.mu) && true)
theorem S_sync_Mutex'.beq_iff (x y : S_sync_Mutex') : S_sync_Mutex'.beq x y = true ↔ x = y := by
  cases x; cases y; simp [S_sync_Mutex'.beq, str_beq, S_sync_noCopy.beq_iff, S_sync_Mutex.beq_iff]

structure S_sync_Once where
  __ : S_sync_noCopy
  done : S_atomic_Bool
  m : S_sync_Mutex'
def S_sync_Once.row (x : S_sync_Once) : List Value := [.int .u32 x.done.v, .int .i32 x.m.mu.state, .int .u32 x.m.mu.sema]
def S_sync_Once.beq (x y : S_sync_Once) : Bool := (S_sync_noCopy.beq x.__ y.__) && ((S_atomic_Bool.beq x.done y.done) && ((S_sync_Mutex'.beq x.m y.m) && true))
theorem S_sync_Once.beq_iff (x y : S_sync_Once) : S_sync_Once.beq x y = true ↔ x = y := by
  cases x; cases y; simp [S_sync_Once.beq, str_beq, S_sync_noCopy.beq_iff, S_atomic_Bool.beq_iff, S_sync_Mutex'.beq_iff]

structure S_atomic_align64 where
def S_atomic_align64.row (x : S_atomic_align64) : List Value := []
def S_atomic_align64.beq (x y : S_atomic_align64) : Bool := true
theorem S_atomic_align64.beq_iff (x y : S_atomic_align64) : S_atomic_align64.beq x y = true ↔ x = y := by
  cases x; cases y; simp [S_atomic_align64.beq]

structure S_atomic_Int64 where
  __ : S_atomic_noCopy
  __i : S_atomic_align64
  v : Int
def S_atomic_Int64.row (x : S_atomic_Int64) : List Value := [.int .i64 x.v]
def S_atomic_Int64.beq (x y : S_atomic_Int64) : Bool := (S_atomic_noCopy.beq x.__ y.__) && ((S_atomic_align64.beq x.__i y.__i) && ((x.v == y.v) && true))
theorem S_atomic_Int64.beq_iff (x y : S_atomic_Int64) : S_atomic_Int64.beq x y = true ↔ x = y := by
  cases x; cases y; simp [S_atomic_Int64.beq, str_beq, S_atomic_noCopy.beq_iff, S_atomic_align64.beq_iff]

structure S_digest_Engine where
  once : S_sync_Once
  table : List Int
  calls : S_atomic_Int64
def S_digest_Engine.row (x : S_digest_Engine) : List Value := ([.int .u32 x.once.done.v, .int .i32 x.once.m.mu.state, .int .u32 x.once.m.mu.sema] : List Value) ++ (aU32 x.table ++ (([.int .i64 x.calls.v] : List Value)))
def S_digest_Engine.beq (x y : S_digest_Engine) : Bool := (S_sync_Once.beq x.once y.once) && ((x.table == y.table) && ((S_atomic_Int64.beq x.calls y.calls) && true))
theorem S_digest_Engine.beq_iff (x y : S_digest_Engine) : S_digest_Engine.beq x y = true ↔ x = y := by
  cases x; cases y; simp [S_digest_Engine.beq, str_beq, S_sync_Once.beq_iff, S_atomic_Int64.beq_iff]

structure S_api_Msg_m where
  c0 : Int
  c1 : Int
  c2 : Int
  c3 : Int
  c4 : Int
  c5 : Int
  c6 : Int
  c7 : Int
  c8 : Int
  c9 : Int
  c10 : Int
  c11 : Int
  c15 : Int
  c16 : Int
  c17 : Int
  c18 : Int
  c19 : Int
  c20 : Int
  c21 : Int
  c22 : Int
  c23 : Int
  c27 : Int
  c28 : Int
  c29 : Bool
  c30 : Int
  c31 : ByteArray
  c32 : Int
  c33 : Int
  c34 : ByteArray
  c35 : Int
  c36 : Int
  c38 : Int
  c39 : ByteArray
  c40 : List UInt8
  c41 : Int
  c42 : Int
  c45 : Int
def dS_api_Msg_m : S_api_Msg_m := S_api_Msg_m.mk 0 0 0 0 0 0 0 0 0 0 0 0 0 0 0 0 0 0 0 0 0 0 0 false 0 (ByteArray.mk #[]) 0 0 (ByteArray.mk #[]) 0 0 0 (ByteArray.mk #[]) [] 0 0 0

structure S_api_Op where
  Kind : Int
  Name : ByteArray
  Data : List UInt8
  Expect : S_api_Version
@[reducible] def nR34 (h : Hd) (x : S_api_Op) : List Value := [.int .i64 x.Kind, .string x.Name, .slice ((h 0).1) x.Data.length ((h 0).2), .int .i64 x.Expect.Epoch, .int .i64 x.Expect.N]
@[reducible] def nJ34 (h : Hd) (x : S_api_Op) : List Ent := [.rd (h 0).1 1 (List.map rB x.Data), Ent.fact (x.Data.length ≤ (h 0).2)]
@[reducible] def nR65 (h : Hd) (x : S_api_Msg_m) : List Value := [.int .i64 x.c0, .int .i64 x.c1, .int .i64 x.c2, .int .i64 x.c3, .int .i64 x.c4, .int .i64 x.c5, .int .i64 x.c6, .int .i64 x.c7, .int .i64 x.c8, .int .i64 x.c9, .int .i64 x.c10, .int .i64 x.c11, .slice none 0 0, .slice none 0 0, .slice none 0 0, .int .i64 x.c15, .int .i64 x.c16, .int .i64 x.c17, .int .i64 x.c18, .int .i64 x.c19, .int .i64 x.c20, .int .i64 x.c21, .int .i64 x.c22, .int .i64 x.c23, .slice none 0 0, .slice none 0 0, .slice none 0 0, .int .i64 x.c27, .int .i64 x.c28, .bool x.c29, .int .i64 x.c30, .string x.c31, .int .i64 x.c32, .int .i64 x.c33, .string x.c34, .int .i64 x.c35, .int .i64 x.c36, .slice none 0 0, .int .i64 x.c38, .string x.c39, .slice ((h 0).1) x.c40.length ((h 0).2), .int .i64 x.c41, .int .i64 x.c42, .slice none 0 0, .slice none 0 0, .int .i64 x.c45]
@[reducible] def nI65 (h : Hd) (x : S_api_Msg_m) : List Ent := [.osl (h 0).1 (h 0).2 5 1 (List.map rB x.c40)]
@[reducible] def nJ65 (h : Hd) (x : S_api_Msg_m) : List Ent := [.rd (h 0).1 1 (List.map rB x.c40), Ent.fact (x.c40.length ≤ (h 0).2)]
theorem nC65 (h : Hd) (x : S_api_Msg_m) : ∀ e' ∈ nJ65 h x, ∃ e ∈ nI65 h x, Cov e e' := by
  intro e' he
  simp only [List.mem_cons, List.not_mem_nil, or_false] at he
  rcases he with rfl | rfl
  · exact ⟨_, .head _, Cov.osl_rd⟩
  · exact ⟨_, .head _, Cov.osl_fact⟩
@[reducible] def r5 (o : Option Addr) (l : List UInt8) : Ent := .rd o 1 (List.map rB l)
@[reducible] def o5 (o : Option Addr) (c : Nat) (l : List UInt8) : Ent := .osl o c 5 1 (List.map rB l)
@[reducible] def r9 (o : Option Addr) (l : List ByteArray) : Ent := .rd o 1 (List.map rS l)
@[reducible] def o9 (o : Option Addr) (c : Nat) (l : List ByteArray) : Ent := .osl o c 9 1 (List.map rS l)
@[reducible] def r31 (o : Option Addr) (l : List S_api_Entry) : Ent := .rd o 7 (List.map S_api_Entry.row l)
@[reducible] def o31 (o : Option Addr) (c : Nat) (l : List S_api_Entry) : Ent := .osl o c 31 7 (List.map S_api_Entry.row l)
@[reducible] def r66 (o : Option Addr) (l : List Int) : Ent := .rd o 1 (List.map rU64 l)
@[reducible] def r91 (o : Option Addr) (l : List S_api_Item) : Ent := .rd o 4 (List.map S_api_Item.row l)
@[reducible] def o91 (o : Option Addr) (c : Nat) (l : List S_api_Item) : Ent := .osl o c 91 4 (List.map S_api_Item.row l)
@[reducible] def r94 (o : Option Addr) (l : List S_api_Last) : Ent := .rd o 5 (List.map S_api_Last.row l)
@[reducible] def o94 (o : Option Addr) (c : Nat) (l : List S_api_Last) : Ent := .osl o c 94 5 (List.map S_api_Last.row l)

@[reducible] def kc0 : List Value := [.int .i64 3, .int .i64 0, .int .i64 0, .slice none 0 0, .slice none 0 0, .slice none 0 0]
@[reducible] def kc1 : List Value := [.int .i64 0, .int .i64 0, .int .i64 0, .slice none 0 0, .slice none 0 0, .slice none 0 0]
@[reducible] def kc2 (p0 : Option Addr) (p1 : Nat) : List Value := [.int .i64 3, .int .i64 0, .int .i64 0, .slice p0 0 p1, .slice none 0 0, .slice none 0 0]
@[reducible] def kc3 (p0 : Option Addr) (p1 : Nat) (p2 : Option Addr) (p3 : Nat) : List Value := [.int .i64 3, .int .i64 0, .int .i64 0, .slice p0 0 p1, .slice p2 0 p3, .slice none 0 0]
@[reducible] def kc4 (p0 : Option Addr) (p1 : Nat) (p2 : Option Addr) (p3 : Nat) (p4 : Option Addr) (p5 : Nat) : List Value := [.int .i64 3, .int .i64 0, .int .i64 0, .slice p0 0 p1, .slice p2 0 p3, .slice p4 0 p5]
@[reducible] def kc5 (p0 : Option Addr) (p1 : Nat) (p2 : Option Addr) (p3 : Nat) (p4 : Option Addr) (p5 : Nat) (p6 : Option Addr) (p7 : Nat) : List Value := [.int .i64 1, .int .i64 0, .int .i64 3, .int .i64 0, .int .i64 9, .slice p0 1 p1, .int .i64 3, .int .i64 0, .int .i64 0, .slice p2 0 p3, .slice p4 0 p5, .slice p6 0 p7, .slice none 0 0, .pointer none, .bool false, .int .i64 0, .bool true]
@[reducible] def kc6 (p0 : Option Addr) : List Value := [.int .i64 30, .int .i64 3, .int .i64 0, .int .i64 2, .int .i64 0, .int .i64 0, .int .i64 0, .int .i64 1, .int .i64 0, .int .i64 5, .int .i64 1, .int .i64 0, .slice none 0 0, .slice none 0 0, .slice none 0 0, .int .i64 0, .int .i64 0, .int .i64 0, .int .i64 0, .int .i64 0, .int .i64 0, .int .i64 0, .int .i64 0, .int .i64 0, .slice none 0 0, .slice none 0 0, .slice none 0 0, .int .i64 0, .int .i64 0, .bool false, .int .i64 0, .string (ByteArray.mk #[]), .int .i64 0, .int .i64 0, .string (ByteArray.mk #[]), .int .i64 0, .int .i64 0, .slice none 0 0, .int .i64 2, .string (ByteArray.mk #[97]), .slice p0 1 1, .int .i64 0, .int .i64 0, .slice none 0 0, .slice none 0 0, .int .i64 0]
@[reducible] def kc7 (p0 : Option Addr) (p1 : Nat) (p2 : Option Addr) (p3 : Nat) (p4 : Nat) (p5 : Option Addr) (p6 : Nat) (p7 : Option Addr) (p8 : Nat) : List Value := [.int .i64 1, .int .i64 0, .int .i64 3, .int .i64 0, .int .i64 9, .slice p0 1 p1, .int .i64 3, .int .i64 0, .int .i64 0, .slice p2 p3 p4, .slice p5 0 p6, .slice p7 0 p8, .slice none 0 0, .pointer none, .bool false, .int .i64 0, .bool true]
@[reducible] def kc8 (p0 : Option Addr) (p1 : Nat) (p2 : Option Addr) (p3 : Nat) (p4 : Nat) (p5 : Option Addr) (p6 : Nat) (p7 : Nat) (p8 : Option Addr) (p9 : Nat) : List Value := [.int .i64 1, .int .i64 0, .int .i64 3, .int .i64 0, .int .i64 9, .slice p0 1 p1, .int .i64 3, .int .i64 0, .int .i64 0, .slice p2 p3 p4, .slice p5 p6 p7, .slice p8 0 p9, .slice none 0 0, .pointer none, .bool false, .int .i64 0, .bool true]
@[reducible] def kc9 (p0 : Option Addr) (p1 : Nat) (p2 : Option Addr) (p3 : Nat) (p4 : Nat) (p5 : Option Addr) (p6 : Nat) (p7 : Nat) (p8 : Option Addr) (p9 : Nat) (p10 : Nat) : List Value := [.int .i64 1, .int .i64 0, .int .i64 3, .int .i64 0, .int .i64 9, .slice p0 1 p1, .int .i64 3, .int .i64 0, .int .i64 0, .slice p2 p3 p4, .slice p5 p6 p7, .slice p8 p9 p10, .slice none 0 0, .pointer none, .bool false, .int .i64 0, .bool true]
@[reducible] def kc10 (p0 : Option Addr) (p1 : Nat) : List Value := [.int .i64 30, .int .i64 3, .int .i64 0, .int .i64 2, .int .i64 0, .int .i64 0, .int .i64 0, .int .i64 1, .int .i64 0, .int .i64 5, .int .i64 1, .int .i64 0, .slice none 0 0, .slice none 0 0, .slice none 0 0, .int .i64 0, .int .i64 0, .int .i64 0, .int .i64 0, .int .i64 0, .int .i64 0, .int .i64 0, .int .i64 0, .int .i64 0, .slice none 0 0, .slice none 0 0, .slice none 0 0, .int .i64 0, .int .i64 0, .bool false, .int .i64 0, .string (ByteArray.mk #[]), .int .i64 0, .int .i64 0, .string (ByteArray.mk #[]), .int .i64 0, .int .i64 0, .slice none 0 0, .int .i64 2, .string (ByteArray.mk #[97]), .slice p0 p1 1, .int .i64 0, .int .i64 0, .slice none 0 0, .slice none 0 0, .int .i64 0]
@[reducible] def kc11 (p0 : Option Addr) (p1 : Nat) (p2 : Int) (p3 : Int) (p4 : Int) (p5 : Option Addr) (p6 : Nat) (p7 : Nat) (p8 : Option Addr) (p9 : Nat) (p10 : Nat) (p11 : Option Addr) (p12 : Nat) (p13 : Nat) (p14 : Option Addr) (p15 : Nat) (p16 : Int) : List Value := [.int .i64 1, .int .i64 0, .int .i64 3, .int .i64 0, .int .i64 9, .slice p0 1 p1, .int .i64 p2, .int .i64 p3, .int .i64 p4, .slice p5 p6 p7, .slice p8 p9 p10, .slice p11 p12 p13, .slice p14 0 p15, .pointer none, .bool false, .int .i64 p16, .bool true]
@[reducible] def kc12 (p0 : Int) (p1 : Int) (p2 : Int) (p3 : Int) (p4 : Int) (p5 : Int) (p6 : Int) (p7 : Int) (p8 : Int) (p9 : Int) (p10 : Int) (p11 : Int) (p12 : Int) (p13 : Int) (p14 : Int) (p15 : Int) (p16 : Int) (p17 : Int) (p18 : Int) (p19 : Int) (p20 : Int) (p21 : Int) (p22 : Int) (p23 : Bool) (p24 : Int) (p25 : ByteArray) (p26 : Int) (p27 : Int) (p28 : ByteArray) (p29 : Int) (p30 : Int) (p31 : Int) (p32 : ByteArray) (p33 : Option Addr) (p34 : Nat) (p35 : Nat) (p36 : Int) (p37 : Int) (p38 : Int) : List Value := [.int .i64 p0, .int .i64 p1, .int .i64 p2, .int .i64 p3, .int .i64 p4, .int .i64 p5, .int .i64 p6, .int .i64 p7, .int .i64 p8, .int .i64 p9, .int .i64 p10, .int .i64 p11, .slice none 0 0, .slice none 0 0, .slice none 0 0, .int .i64 p12, .int .i64 p13, .int .i64 p14, .int .i64 p15, .int .i64 p16, .int .i64 p17, .int .i64 p18, .int .i64 p19, .int .i64 p20, .slice none 0 0, .slice none 0 0, .slice none 0 0, .int .i64 p21, .int .i64 p22, .bool p23, .int .i64 p24, .string p25, .int .i64 p26, .int .i64 p27, .string p28, .int .i64 p29, .int .i64 p30, .slice none 0 0, .int .i64 p31, .string p32, .slice p33 p34 p35, .int .i64 p36, .int .i64 p37, .slice none 0 0, .slice none 0 0, .int .i64 p38]
@[reducible] def kc13 : List Value := [.bool false, .int .i64 0, .int .i64 0, .int .i64 0, .slice none 0 0, .slice none 0 0, .slice none 0 0, .bool false, .string (ByteArray.mk #[]), .int .i64 0, .int .i64 0, .slice none 0 0, .bool false, .bool false, .string (ByteArray.mk #[]), .slice none 0 0]
@[reducible] def kc14 (p0 : Option Addr) (p1 : Nat) (p2 : Int) (p3 : Int) (p4 : Int) (p5 : Option Addr) (p6 : Nat) (p7 : Nat) (p8 : Option Addr) (p9 : Nat) (p10 : Nat) (p11 : Option Addr) (p12 : Nat) (p13 : Nat) (p14 : Option Addr) (p15 : Nat) (p16 : Int) : List Value := [.int .i64 1, .int .i64 0, .int .i64 3, .int .i64 0, .int .i64 9, .slice p0 1 p1, .int .i64 p2, .int .i64 p3, .int .i64 p4, .slice p5 p6 p7, .slice p8 p9 p10, .slice p11 p12 p13, .slice p14 1 p15, .pointer none, .bool false, .int .i64 p16, .bool true]
@[reducible] def kc15 (p0 : Int) (p1 : Int) (p2 : Int) (p3 : Option Addr) (p4 : Nat) (p5 : Nat) (p6 : Option Addr) (p7 : Nat) (p8 : Nat) (p9 : Option Addr) (p10 : Nat) (p11 : Nat) : List Value := [.int .i64 p0, .int .i64 p1, .int .i64 p2, .slice p3 p4 p5, .slice p6 p7 p8, .slice p9 p10 p11]
@[reducible] def kc16 : List Value := [.int .i64 0, .int .i64 0, .int .i64 0, .int .i64 0, .int .i64 0]
@[reducible] def kc17 (p0 : Int) (p1 : Int) (p2 : Int) (p3 : Int) (p4 : Int) : List Value := [.int .i64 p0, .int .i64 p1, .int .i64 p2, .int .i64 p3, .int .i64 p4]
@[reducible] def kc18 (p0 : Value) (p1 : Value) (p2 : Value) (p3 : Value) (p4 : Value) (p5 : Value) (p6 : Value) (p7 : Value) (p8 : Value) (p9 : Value) (p10 : Value) (p11 : Value) : List Value := [.int .i64 1, .int .i64 0, .int .i64 3, .int .i64 0, .int .i64 9, p0, p1, p2, p3, p4, p5, p6, p7, p8, p9, p10, p11]
@[reducible] def kc19 : List Value := [.int .i64 0, .int .i64 0, .int .i64 0, .int .i64 0, .int .i64 0, .int .i64 0, .int .i64 0, .int .i64 0, .int .i64 0, .int .i64 0, .int .i64 0, .int .i64 0, .slice none 0 0, .slice none 0 0, .slice none 0 0, .int .i64 0, .int .i64 0, .int .i64 0, .int .i64 0, .int .i64 0, .int .i64 0, .int .i64 0, .int .i64 0, .int .i64 0, .slice none 0 0, .slice none 0 0, .slice none 0 0, .int .i64 0, .int .i64 0, .bool false, .int .i64 0, .string (ByteArray.mk #[]), .int .i64 0, .int .i64 0, .string (ByteArray.mk #[]), .int .i64 0, .int .i64 0, .slice none 0 0, .int .i64 0, .string (ByteArray.mk #[]), .slice none 0 0, .int .i64 0, .int .i64 0, .slice none 0 0, .slice none 0 0, .int .i64 0]
@[reducible] def kc20 (p0 : Int) : List Value := [.int .i64 0, .int .i64 0, .int .i64 0, .int .i64 0, .int .i64 0, .int .i64 0, .int .i64 0, .int .i64 0, .int .i64 0, .int .i64 0, .int .i64 0, .int .i64 0, .slice none 0 0, .slice none 0 0, .slice none 0 0, .int .i64 0, .int .i64 0, .int .i64 0, .int .i64 0, .int .i64 0, .int .i64 0, .int .i64 0, .int .i64 0, .int .i64 0, .slice none 0 0, .slice none 0 0, .slice none 0 0, .int .i64 0, .int .i64 0, .bool false, .int .i64 0, .string (ByteArray.mk #[]), .int .i64 0, .int .i64 0, .string (ByteArray.mk #[]), .int .i64 0, .int .i64 0, .slice none 0 0, .int .i64 0, .string (ByteArray.mk #[]), .slice none 0 0, .int .i64 0, .int .i64 0, .slice none 0 0, .slice none 0 0, .int .i64 p0]
@[reducible] def kc21 (p0 : ByteArray) (p1 : Int) (p2 : Int) : List Value := [.string p0, .int .i64 p1, .int .i64 p2, .slice none 0 0]
@[reducible] def kc22 (p0 : ByteArray) (p1 : Int) (p2 : Int) (p3 : Int) : List Value := [.int .i64 0, .int .i64 0, .int .i64 0, .int .i64 0, .int .i64 0, .int .i64 0, .int .i64 0, .int .i64 0, .int .i64 0, .int .i64 0, .int .i64 0, .int .i64 0, .slice none 0 0, .slice none 0 0, .slice none 0 0, .int .i64 0, .int .i64 0, .int .i64 0, .int .i64 0, .int .i64 0, .int .i64 0, .int .i64 0, .int .i64 0, .int .i64 0, .slice none 0 0, .slice none 0 0, .slice none 0 0, .int .i64 0, .int .i64 0, .bool false, .int .i64 0, .string (ByteArray.mk #[]), .int .i64 0, .int .i64 0, .string p0, .int .i64 p1, .int .i64 p2, .slice none 0 0, .int .i64 0, .string (ByteArray.mk #[]), .slice none 0 0, .int .i64 0, .int .i64 0, .slice none 0 0, .slice none 0 0, .int .i64 p3]
@[reducible] def kc23 (p0 : Int) (p1 : Int) (p2 : Int) (p3 : Int) (p4 : Int) (p5 : Int) (p6 : Int) (p7 : Int) (p8 : Int) (p9 : Int) (p10 : Int) (p11 : Int) (p12 : Int) (p13 : Int) (p14 : Int) (p15 : Int) (p16 : Int) (p17 : Int) (p18 : Int) (p19 : Int) (p20 : Int) (p21 : Int) (p22 : Int) (p23 : Bool) (p24 : Int) (p25 : ByteArray) (p26 : Int) (p27 : Int) (p28 : ByteArray) (p29 : Int) (p30 : Int) (p31 : Int) (p32 : ByteArray) (p33 : Int) (p34 : Int) (p35 : Int) : List Value := [.int .i64 p0, .int .i64 p1, .int .i64 p2, .int .i64 p3, .int .i64 p4, .int .i64 p5, .int .i64 p6, .int .i64 p7, .int .i64 p8, .int .i64 p9, .int .i64 p10, .int .i64 p11, .slice none 0 0, .slice none 0 0, .slice none 0 0, .int .i64 p12, .int .i64 p13, .int .i64 p14, .int .i64 p15, .int .i64 p16, .int .i64 p17, .int .i64 p18, .int .i64 p19, .int .i64 p20, .slice none 0 0, .slice none 0 0, .slice none 0 0, .int .i64 p21, .int .i64 p22, .bool p23, .int .i64 p24, .string p25, .int .i64 p26, .int .i64 p27, .string p28, .int .i64 p29, .int .i64 p30, .slice none 0 0, .int .i64 p31, .string p32, .slice none 0 0, .int .i64 p33, .int .i64 p34, .slice none 0 0, .slice none 0 0, .int .i64 p35]
@[reducible] def kc24 (p0 : Int) (p1 : Int) (p2 : Int) (p3 : Int) (p4 : Int) (p5 : Int) (p6 : Int) (p7 : Int) (p8 : Int) (p9 : Int) (p10 : Int) (p11 : Int) (p12 : Int) (p13 : Int) (p14 : Int) (p15 : Int) (p16 : Int) (p17 : Int) (p18 : Int) (p19 : Int) (p20 : Int) (p21 : Int) (p22 : Bool) (p23 : Int) (p24 : ByteArray) (p25 : Int) (p26 : Int) (p27 : ByteArray) (p28 : Int) (p29 : Int) (p30 : Int) (p31 : ByteArray) (p32 : Int) (p33 : Int) (p34 : Int) : List Value := [.int .i64 31, .int .i64 p0, .int .i64 p1, .int .i64 p2, .int .i64 p3, .int .i64 p4, .int .i64 p5, .int .i64 p6, .int .i64 p7, .int .i64 p8, .int .i64 p9, .int .i64 p10, .slice none 0 0, .slice none 0 0, .slice none 0 0, .int .i64 p11, .int .i64 p12, .int .i64 p13, .int .i64 p14, .int .i64 p15, .int .i64 p16, .int .i64 p17, .int .i64 p18, .int .i64 p19, .slice none 0 0, .slice none 0 0, .slice none 0 0, .int .i64 p20, .int .i64 p21, .bool p22, .int .i64 p23, .string p24, .int .i64 p25, .int .i64 p26, .string p27, .int .i64 p28, .int .i64 p29, .slice none 0 0, .int .i64 p30, .string p31, .slice none 0 0, .int .i64 p32, .int .i64 p33, .slice none 0 0, .slice none 0 0, .int .i64 p34]
@[reducible] def kc25 (p0 : Int) (p1 : Int) (p2 : Int) (p3 : Int) (p4 : Int) (p5 : Int) (p6 : Int) (p7 : Int) (p8 : Int) (p9 : Int) (p10 : Int) (p11 : Int) (p12 : Int) (p13 : Int) (p14 : Int) (p15 : Int) (p16 : Int) (p17 : Int) (p18 : Int) (p19 : Bool) (p20 : Int) (p21 : ByteArray) (p22 : Int) (p23 : Int) (p24 : ByteArray) (p25 : Int) (p26 : Int) (p27 : Int) (p28 : ByteArray) (p29 : Int) (p30 : Int) (p31 : Int) : List Value := [.int .i64 p0, .int .i64 2, .int .i64 0, .int .i64 2, .int .i64 0, .int .i64 p1, .int .i64 p2, .int .i64 p3, .int .i64 p4, .int .i64 p5, .int .i64 p6, .int .i64 p7, .slice none 0 0, .slice none 0 0, .slice none 0 0, .int .i64 p8, .int .i64 p9, .int .i64 p10, .int .i64 p11, .int .i64 p12, .int .i64 p13, .int .i64 p14, .int .i64 p15, .int .i64 p16, .slice none 0 0, .slice none 0 0, .slice none 0 0, .int .i64 p17, .int .i64 p18, .bool p19, .int .i64 p20, .string p21, .int .i64 p22, .int .i64 p23, .string p24, .int .i64 p25, .int .i64 p26, .slice none 0 0, .int .i64 p27, .string p28, .slice none 0 0, .int .i64 p29, .int .i64 p30, .slice none 0 0, .slice none 0 0, .int .i64 p31]
@[reducible] def kc26 (p0 : Int) (p1 : Int) (p2 : Int) (p3 : Int) (p4 : Int) (p5 : Int) (p6 : Int) (p7 : Int) (p8 : Int) (p9 : Int) (p10 : Int) (p11 : Int) (p12 : Int) (p13 : Int) (p14 : Int) (p15 : Bool) (p16 : Int) (p17 : ByteArray) (p18 : Int) (p19 : Int) (p20 : ByteArray) (p21 : Int) (p22 : Int) (p23 : Int) (p24 : ByteArray) (p25 : Int) (p26 : Int) (p27 : Int) : List Value := [.int .i64 p0, .int .i64 2, .int .i64 0, .int .i64 2, .int .i64 0, .int .i64 9, .int .i64 3, .int .i64 1, .int .i64 0, .int .i64 p1, .int .i64 p2, .int .i64 p3, .slice none 0 0, .slice none 0 0, .slice none 0 0, .int .i64 p4, .int .i64 p5, .int .i64 p6, .int .i64 p7, .int .i64 p8, .int .i64 p9, .int .i64 p10, .int .i64 p11, .int .i64 p12, .slice none 0 0, .slice none 0 0, .slice none 0 0, .int .i64 p13, .int .i64 p14, .bool p15, .int .i64 p16, .string p17, .int .i64 p18, .int .i64 p19, .string p20, .int .i64 p21, .int .i64 p22, .slice none 0 0, .int .i64 p23, .string p24, .slice none 0 0, .int .i64 p25, .int .i64 p26, .slice none 0 0, .slice none 0 0, .int .i64 p27]
@[reducible] def kc27 (p0 : Int) (p1 : Int) (p2 : Int) (p3 : Int) (p4 : Int) (p5 : Int) (p6 : Int) (p7 : Int) (p8 : Int) (p9 : Int) (p10 : Int) (p11 : Int) (p12 : Int) (p13 : Int) (p14 : Bool) (p15 : Int) (p16 : ByteArray) (p17 : Int) (p18 : Int) (p19 : ByteArray) (p20 : Int) (p21 : Int) (p22 : Int) (p23 : ByteArray) (p24 : Int) (p25 : Int) (p26 : Int) : List Value := [.int .i64 31, .int .i64 2, .int .i64 0, .int .i64 2, .int .i64 0, .int .i64 9, .int .i64 3, .int .i64 1, .int .i64 0, .int .i64 p0, .int .i64 p1, .int .i64 p2, .slice none 0 0, .slice none 0 0, .slice none 0 0, .int .i64 p3, .int .i64 p4, .int .i64 p5, .int .i64 p6, .int .i64 p7, .int .i64 p8, .int .i64 p9, .int .i64 p10, .int .i64 p11, .slice none 0 0, .slice none 0 0, .slice none 0 0, .int .i64 p12, .int .i64 p13, .bool p14, .int .i64 p15, .string p16, .int .i64 p17, .int .i64 p18, .string p19, .int .i64 p20, .int .i64 p21, .slice none 0 0, .int .i64 p22, .string p23, .slice none 0 0, .int .i64 p24, .int .i64 p25, .slice none 0 0, .slice none 0 0, .int .i64 p26]
@[reducible] def kc28 (p0 : Int) (p1 : Int) (p2 : Int) (p3 : Int) (p4 : Int) (p5 : Int) (p6 : Int) (p7 : Int) (p8 : Int) (p9 : Int) (p10 : Int) (p11 : Int) (p12 : Int) (p13 : Int) (p14 : Int) (p15 : Int) (p16 : Bool) (p17 : Int) (p18 : ByteArray) (p19 : Int) (p20 : Int) (p21 : ByteArray) (p22 : Int) (p23 : Int) (p24 : Int) (p25 : ByteArray) (p26 : Int) (p27 : Int) (p28 : Int) : List Value := [.int .i64 31, .int .i64 2, .int .i64 0, .int .i64 p0, .int .i64 p1, .int .i64 9, .int .i64 3, .int .i64 1, .int .i64 0, .int .i64 p2, .int .i64 p3, .int .i64 p4, .slice none 0 0, .slice none 0 0, .slice none 0 0, .int .i64 p5, .int .i64 p6, .int .i64 p7, .int .i64 p8, .int .i64 p9, .int .i64 p10, .int .i64 p11, .int .i64 p12, .int .i64 p13, .slice none 0 0, .slice none 0 0, .slice none 0 0, .int .i64 p14, .int .i64 p15, .bool p16, .int .i64 p17, .string p18, .int .i64 p19, .int .i64 p20, .string p21, .int .i64 p22, .int .i64 p23, .slice none 0 0, .int .i64 p24, .string p25, .slice none 0 0, .int .i64 p26, .int .i64 p27, .slice none 0 0, .slice none 0 0, .int .i64 p28]
@[reducible] def kc29 (p0 : Int) (p1 : Int) (p2 : Int) (p3 : Int) (p4 : ByteArray) (p5 : Int) (p6 : Int) (p7 : Int) : List Value := [.int .i64 31, .int .i64 2, .int .i64 0, .int .i64 p0, .int .i64 p1, .int .i64 9, .int .i64 3, .int .i64 1, .int .i64 0, .int .i64 p2, .int .i64 p3, .int .i64 0, .slice none 0 0, .slice none 0 0, .slice none 0 0, .int .i64 0, .int .i64 0, .int .i64 0, .int .i64 0, .int .i64 0, .int .i64 0, .int .i64 0, .int .i64 0, .int .i64 0, .slice none 0 0, .slice none 0 0, .slice none 0 0, .int .i64 0, .int .i64 0, .bool false, .int .i64 0, .string (ByteArray.mk #[]), .int .i64 0, .int .i64 0, .string p4, .int .i64 p5, .int .i64 p6, .slice none 0 0, .int .i64 0, .string (ByteArray.mk #[]), .slice none 0 0, .int .i64 0, .int .i64 0, .slice none 0 0, .slice none 0 0, .int .i64 p7]
@[reducible] def kc30 (p0 : Option Addr) (p1 : Nat) : List Value := [.bool false, .int .i64 0, .int .i64 0, .int .i64 0, .slice none 0 0, .slice none 0 0, .slice none 0 0, .bool false, .string (ByteArray.mk #[]), .int .i64 0, .int .i64 0, .slice none 0 0, .bool false, .bool false, .string (ByteArray.mk #[]), .slice p0 1 p1]
@[reducible] def kc31 (p0 : Int) (p1 : ByteArray) (p2 : Option Addr) (p3 : Nat) (p4 : Nat) (p5 : Int) (p6 : Int) : List Value := [.int .i64 p0, .string p1, .slice p2 p3 p4, .int .i64 p5, .int .i64 p6]
@[reducible] def kc32 : List Value := [.string (ByteArray.mk #[]), .int .i64 0, .int .i64 0, .int .u32 0]
@[reducible] def kc33 (p0 : ByteArray) (p1 : Int) (p2 : Int) (p3 : Int) : List Value := [.string p0, .int .i64 p1, .int .i64 p2, .int .u32 p3]
@[reducible] def kc34 (p0 : Int) (p1 : Int) (p2 : Int) (p3 : Int) (p4 : Int) : List Value := [.int .i64 31, .int .i64 2, .int .i64 0, .int .i64 p0, .int .i64 p1, .int .i64 9, .int .i64 3, .int .i64 1, .int .i64 0, .int .i64 p2, .int .i64 p3, .int .i64 0, .slice none 0 0, .slice none 0 0, .slice none 0 0, .int .i64 0, .int .i64 0, .int .i64 0, .int .i64 0, .int .i64 0, .int .i64 0, .int .i64 0, .int .i64 0, .int .i64 0, .slice none 0 0, .slice none 0 0, .slice none 0 0, .int .i64 0, .int .i64 0, .bool false, .int .i64 0, .string (ByteArray.mk #[]), .int .i64 0, .int .i64 0, .string (ByteArray.mk #[]), .int .i64 0, .int .i64 0, .slice none 0 0, .int .i64 0, .string (ByteArray.mk #[]), .slice none 0 0, .int .i64 0, .int .i64 0, .slice none 0 0, .slice none 0 0, .int .i64 p4]
@[reducible] def kc35 (p0 : Int) (p1 : Int) (p2 : Bool) (p3 : Int) (p4 : ByteArray) (p5 : Int) (p6 : Int) : List Value := [.int .i64 p0, .int .i64 p1, .bool p2, .int .i64 p3, .string p4, .int .i64 p5, .int .i64 p6]
@[reducible] def kc36 (p0 : Int) (p1 : Int) (p2 : Int) (p3 : Int) (p4 : Int) (p5 : Int) (p6 : Int) (p7 : Int) (p8 : Int) (p9 : Int) (p10 : Int) (p11 : Int) (p12 : Int) (p13 : Int) (p14 : Int) (p15 : Int) (p16 : Int) (p17 : Int) (p18 : Int) (p19 : Int) (p20 : Int) (p21 : Int) (p22 : Int) (p23 : Bool) (p24 : Int) (p25 : ByteArray) (p26 : Int) (p27 : Int) (p28 : ByteArray) (p29 : Int) (p30 : Int) (p31 : Int) (p32 : ByteArray) (p33 : Option Addr) (p34 : Nat) (p35 : Nat) (p36 : Int) (p37 : Int) (p38 : Int) (p39 : Int) (p40 : Int) (p41 : Bool) (p42 : Int) (p43 : ByteArray) (p44 : Int) (p45 : Int) (p46 : Option Addr) (p47 : Nat) : List Value := [.int .i64 p0, .int .i64 p1, .int .i64 p2, .int .i64 p3, .int .i64 p4, .int .i64 p5, .int .i64 p6, .int .i64 p7, .int .i64 p8, .int .i64 p9, .int .i64 p10, .int .i64 p11, .slice none 0 0, .slice none 0 0, .slice none 0 0, .int .i64 p12, .int .i64 p13, .int .i64 p14, .int .i64 p15, .int .i64 p16, .int .i64 p17, .int .i64 p18, .int .i64 p19, .int .i64 p20, .slice none 0 0, .slice none 0 0, .slice none 0 0, .int .i64 p21, .int .i64 p22, .bool p23, .int .i64 p24, .string p25, .int .i64 p26, .int .i64 p27, .string p28, .int .i64 p29, .int .i64 p30, .slice none 0 0, .int .i64 p31, .string p32, .slice p33 p34 p35, .int .i64 p36, .int .i64 p37, .slice none 0 0, .slice none 0 0, .int .i64 p38, .bool true, .int .i64 p39, .int .i64 p40, .bool p41, .int .i64 p42, .string p43, .int .i64 p44, .int .i64 p45, .string (ByteArray.mk #[]), .int .i64 0, .int .i64 0, .slice none 0 0, .int .i64 0, .slice p46 1 p47, .bool false]
@[reducible] def kc37 (p0 : ByteArray) (p1 : Int) (p2 : Int) (p3 : Option Addr) (p4 : Nat) (p5 : Nat) : List Value := [.string p0, .int .i64 p1, .int .i64 p2, .slice p3 p4 p5]
@[reducible] def kc38 (p0 : Int) (p1 : Int) (p2 : Int) (p3 : Int) (p4 : Int) (p5 : Int) (p6 : Int) (p7 : Int) (p8 : Int) (p9 : Int) (p10 : Int) (p11 : Int) (p12 : Int) (p13 : Int) (p14 : Int) (p15 : Int) (p16 : Int) (p17 : Int) (p18 : Int) (p19 : Int) (p20 : Int) (p21 : Int) (p22 : Int) (p23 : Bool) (p24 : Int) (p25 : ByteArray) (p26 : Int) (p27 : Int) (p28 : ByteArray) (p29 : Int) (p30 : Int) (p31 : Int) (p32 : ByteArray) (p33 : Option Addr) (p34 : Nat) (p35 : Nat) (p36 : Int) (p37 : Int) (p38 : Int) (p39 : Int) (p40 : Int) (p41 : Bool) (p42 : Int) (p43 : ByteArray) (p44 : Int) (p45 : Int) (p46 : ByteArray) (p47 : Int) (p48 : Int) (p49 : Option Addr) (p50 : Nat) (p51 : Nat) (p52 : Option Addr) (p53 : Nat) : List Value := [.int .i64 p0, .int .i64 p1, .int .i64 p2, .int .i64 p3, .int .i64 p4, .int .i64 p5, .int .i64 p6, .int .i64 p7, .int .i64 p8, .int .i64 p9, .int .i64 p10, .int .i64 p11, .slice none 0 0, .slice none 0 0, .slice none 0 0, .int .i64 p12, .int .i64 p13, .int .i64 p14, .int .i64 p15, .int .i64 p16, .int .i64 p17, .int .i64 p18, .int .i64 p19, .int .i64 p20, .slice none 0 0, .slice none 0 0, .slice none 0 0, .int .i64 p21, .int .i64 p22, .bool p23, .int .i64 p24, .string p25, .int .i64 p26, .int .i64 p27, .string p28, .int .i64 p29, .int .i64 p30, .slice none 0 0, .int .i64 p31, .string p32, .slice p33 p34 p35, .int .i64 p36, .int .i64 p37, .slice none 0 0, .slice none 0 0, .int .i64 p38, .bool true, .int .i64 p39, .int .i64 p40, .bool p41, .int .i64 p42, .string p43, .int .i64 p44, .int .i64 p45, .string p46, .int .i64 p47, .int .i64 p48, .slice p49 p50 p51, .int .i64 0, .slice p52 1 p53, .bool false]
@[reducible] def kc39 (p0 : Option Addr) (p1 : Nat) (p2 : Int) (p3 : Int) (p4 : Int) (p5 : Option Addr) (p6 : Nat) (p7 : Nat) (p8 : Option Addr) (p9 : Nat) (p10 : Nat) (p11 : Option Addr) (p12 : Nat) (p13 : Nat) (p14 : Option Addr) (p15 : Nat) (p16 : Nat) (p17 : Int) : List Value := [.int .i64 1, .int .i64 0, .int .i64 3, .int .i64 0, .int .i64 9, .slice p0 1 p1, .int .i64 p2, .int .i64 p3, .int .i64 p4, .slice p5 p6 p7, .slice p8 p9 p10, .slice p11 p12 p13, .slice p14 0 p15, .pointer (some ⟨p16, 0, none⟩), .bool false, .int .i64 p17, .bool true]
@[reducible] def kc40 (p0 : Int) (p1 : Int) (p2 : Int) (p3 : Int) (p4 : Int) (p5 : Int) (p6 : Int) (p7 : Int) (p8 : Int) (p9 : Int) (p10 : Int) (p11 : Int) (p12 : Int) (p13 : Int) (p14 : Int) (p15 : Int) (p16 : Int) (p17 : Int) (p18 : Int) (p19 : Int) (p20 : Int) (p21 : Int) (p22 : Int) (p23 : Bool) (p24 : Int) (p25 : ByteArray) (p26 : Int) (p27 : Int) (p28 : ByteArray) (p29 : Int) (p30 : Int) (p31 : Int) (p32 : ByteArray) (p33 : Option Addr) (p34 : Nat) (p35 : Nat) (p36 : Int) (p37 : Int) (p38 : Int) (p39 : Int) (p40 : Int) (p41 : Bool) (p42 : Int) (p43 : ByteArray) (p44 : Int) (p45 : Int) (p46 : ByteArray) (p47 : Int) (p48 : Int) (p49 : Option Addr) (p50 : Nat) (p51 : Nat) (p52 : Int) (p53 : Option Addr) (p54 : Nat) : List Value := [.int .i64 p0, .int .i64 p1, .int .i64 p2, .int .i64 p3, .int .i64 p4, .int .i64 p5, .int .i64 p6, .int .i64 p7, .int .i64 p8, .int .i64 p9, .int .i64 p10, .int .i64 p11, .slice none 0 0, .slice none 0 0, .slice none 0 0, .int .i64 p12, .int .i64 p13, .int .i64 p14, .int .i64 p15, .int .i64 p16, .int .i64 p17, .int .i64 p18, .int .i64 p19, .int .i64 p20, .slice none 0 0, .slice none 0 0, .slice none 0 0, .int .i64 p21, .int .i64 p22, .bool p23, .int .i64 p24, .string p25, .int .i64 p26, .int .i64 p27, .string p28, .int .i64 p29, .int .i64 p30, .slice none 0 0, .int .i64 p31, .string p32, .slice p33 p34 p35, .int .i64 p36, .int .i64 p37, .slice none 0 0, .slice none 0 0, .int .i64 p38, .bool true, .int .i64 p39, .int .i64 p40, .bool p41, .int .i64 p42, .string p43, .int .i64 p44, .int .i64 p45, .string p46, .int .i64 p47, .int .i64 p48, .slice p49 p50 p51, .int .i64 p52, .slice p53 1 p54, .bool false]
@[reducible] def kc41 (p0 : Int) (p1 : Int) (p2 : Int) (p3 : Option Addr) (p4 : Nat) (p5 : Nat) (p6 : Option Addr) (p7 : Nat) (p8 : Nat) (p9 : Option Addr) (p10 : Nat) (p11 : Nat) : List Value := [.bool true, .int .i64 p0, .int .i64 p1, .int .i64 p2, .slice p3 p4 p5, .slice p6 p7 p8, .slice p9 p10 p11, .bool false, .string (ByteArray.mk #[]), .int .i64 0, .int .i64 0, .slice none 0 0, .bool false, .bool false, .string (ByteArray.mk #[]), .slice none 0 0]
@[reducible] def kc42 : List Value := [.string (ByteArray.mk #[]), .int .i64 0, .int .i64 0, .slice none 0 0]
@[reducible] def kc43 (p0 : Int) (p1 : Int) (p2 : Int) (p3 : Option Addr) (p4 : Nat) (p5 : Nat) (p6 : Option Addr) (p7 : Nat) (p8 : Nat) (p9 : Option Addr) (p10 : Nat) (p11 : Nat) (p12 : ByteArray) (p13 : Int) (p14 : Int) (p15 : Option Addr) (p16 : Nat) (p17 : Nat) : List Value := [.bool true, .int .i64 p0, .int .i64 p1, .int .i64 p2, .slice p3 p4 p5, .slice p6 p7 p8, .slice p9 p10 p11, .bool true, .string p12, .int .i64 p13, .int .i64 p14, .slice p15 p16 p17, .bool false, .bool false, .string (ByteArray.mk #[]), .slice none 0 0]
@[reducible] def kc44 (p0 : Value) (p1 : Value) (p2 : Value) (p3 : Value) (p4 : Value) (p5 : Value) (p6 : Value) (p7 : Value) (p8 : Value) (p9 : Value) (p10 : Value) (p11 : Value) (p12 : Value) (p13 : Value) (p14 : Value) (p15 : Value) (p16 : Value) (p17 : Value) (p18 : Value) (p19 : Value) (p20 : Value) (p21 : Value) (p22 : Value) (p23 : Value) (p24 : Value) (p25 : Value) (p26 : Value) (p27 : Value) (p28 : Value) (p29 : Value) (p30 : Value) (p31 : Value) (p32 : Value) (p33 : Value) (p34 : Value) (p35 : Value) (p36 : Value) (p37 : Value) (p38 : Value) (p39 : Value) (p40 : Value) (p41 : Value) (p42 : Value) (p43 : Value) (p44 : Value) (p45 : Value) (p46 : Int) (p47 : Int) (p48 : Bool) (p49 : Int) (p50 : ByteArray) (p51 : Int) (p52 : Int) (p53 : ByteArray) (p54 : Int) (p55 : Int) (p56 : Option Addr) (p57 : Nat) (p58 : Nat) (p59 : Int) (p60 : Value) : List Value := [p0, p1, p2, p3, p4, p5, p6, p7, p8, p9, p10, p11, p12, p13, p14, p15, p16, p17, p18, p19, p20, p21, p22, p23, p24, p25, p26, p27, p28, p29, p30, p31, p32, p33, p34, p35, p36, p37, p38, p39, p40, p41, p42, p43, p44, p45, .bool true, .int .i64 p46, .int .i64 p47, .bool p48, .int .i64 p49, .string p50, .int .i64 p51, .int .i64 p52, .string p53, .int .i64 p54, .int .i64 p55, .slice p56 p57 p58, .int .i64 p59, p60, .bool false]
@[reducible] def kc45 (p0 : Value) (p1 : Value) (p2 : Value) (p3 : Value) (p4 : Value) (p5 : Value) (p6 : Value) (p7 : Value) (p8 : Nat) (p9 : Value) (p10 : Value) (p11 : Value) : List Value := [.int .i64 1, .int .i64 0, .int .i64 3, .int .i64 0, .int .i64 9, p0, p1, p2, p3, p4, p5, p6, p7, .pointer (some ⟨p8, 0, none⟩), p9, p10, p11]
@[reducible] def kc46 (p0 : Int) (p1 : Int) (p2 : Int) (p3 : Int) (p4 : Int) (p5 : Int) (p6 : Int) (p7 : Int) (p8 : Int) (p9 : Int) (p10 : Int) (p11 : Int) (p12 : Int) (p13 : Int) (p14 : Int) (p15 : Int) (p16 : Int) (p17 : Int) (p18 : Int) (p19 : Int) (p20 : Int) (p21 : Int) (p22 : Int) (p23 : Bool) (p24 : Int) (p25 : ByteArray) (p26 : Int) (p27 : Int) (p28 : ByteArray) (p29 : Int) (p30 : Int) (p31 : Option Addr) (p32 : Nat) (p33 : Nat) (p34 : Int) (p35 : ByteArray) (p36 : Int) (p37 : Int) (p38 : Int) : List Value := [.int .i64 p0, .int .i64 p1, .int .i64 p2, .int .i64 p3, .int .i64 p4, .int .i64 p5, .int .i64 p6, .int .i64 p7, .int .i64 p8, .int .i64 p9, .int .i64 p10, .int .i64 p11, .slice none 0 0, .slice none 0 0, .slice none 0 0, .int .i64 p12, .int .i64 p13, .int .i64 p14, .int .i64 p15, .int .i64 p16, .int .i64 p17, .int .i64 p18, .int .i64 p19, .int .i64 p20, .slice none 0 0, .slice none 0 0, .slice none 0 0, .int .i64 p21, .int .i64 p22, .bool p23, .int .i64 p24, .string p25, .int .i64 p26, .int .i64 p27, .string p28, .int .i64 p29, .int .i64 p30, .slice p31 p32 p33, .int .i64 p34, .string p35, .slice none 0 0, .int .i64 p36, .int .i64 p37, .slice none 0 0, .slice none 0 0, .int .i64 p38]
@[reducible] def kc47 (p0 : Int) (p1 : Int) (p2 : Int) (p3 : Int) (p4 : Int) (p5 : Int) (p6 : Int) (p7 : Int) (p8 : Int) (p9 : Int) (p10 : Int) (p11 : Int) (p12 : Int) (p13 : Int) (p14 : Int) (p15 : Int) (p16 : Int) (p17 : Int) (p18 : Int) (p19 : Bool) (p20 : Int) (p21 : ByteArray) (p22 : Int) (p23 : Int) (p24 : ByteArray) (p25 : Int) (p26 : Int) (p27 : Option Addr) (p28 : Nat) (p29 : Nat) (p30 : Int) (p31 : ByteArray) (p32 : Int) (p33 : Int) (p34 : Int) : List Value := [.int .i64 p0, .int .i64 2, .int .i64 0, .int .i64 2, .int .i64 1, .int .i64 p1, .int .i64 p2, .int .i64 p3, .int .i64 p4, .int .i64 p5, .int .i64 p6, .int .i64 p7, .slice none 0 0, .slice none 0 0, .slice none 0 0, .int .i64 p8, .int .i64 p9, .int .i64 p10, .int .i64 p11, .int .i64 p12, .int .i64 p13, .int .i64 p14, .int .i64 p15, .int .i64 p16, .slice none 0 0, .slice none 0 0, .slice none 0 0, .int .i64 p17, .int .i64 p18, .bool p19, .int .i64 p20, .string p21, .int .i64 p22, .int .i64 p23, .string p24, .int .i64 p25, .int .i64 p26, .slice p27 p28 p29, .int .i64 p30, .string p31, .slice none 0 0, .int .i64 p32, .int .i64 p33, .slice none 0 0, .slice none 0 0, .int .i64 p34]
@[reducible] def kc48 (p0 : Int) (p1 : Int) (p2 : Int) (p3 : Int) (p4 : Int) (p5 : Int) (p6 : Int) (p7 : Int) (p8 : Int) (p9 : Int) (p10 : Int) (p11 : Int) (p12 : Int) (p13 : Int) (p14 : Int) (p15 : Bool) (p16 : Int) (p17 : ByteArray) (p18 : Int) (p19 : Int) (p20 : ByteArray) (p21 : Int) (p22 : Int) (p23 : Option Addr) (p24 : Nat) (p25 : Nat) (p26 : Int) (p27 : ByteArray) (p28 : Int) (p29 : Int) (p30 : Int) : List Value := [.int .i64 p0, .int .i64 2, .int .i64 0, .int .i64 2, .int .i64 1, .int .i64 9, .int .i64 3, .int .i64 1, .int .i64 0, .int .i64 p1, .int .i64 p2, .int .i64 p3, .slice none 0 0, .slice none 0 0, .slice none 0 0, .int .i64 p4, .int .i64 p5, .int .i64 p6, .int .i64 p7, .int .i64 p8, .int .i64 p9, .int .i64 p10, .int .i64 p11, .int .i64 p12, .slice none 0 0, .slice none 0 0, .slice none 0 0, .int .i64 p13, .int .i64 p14, .bool p15, .int .i64 p16, .string p17, .int .i64 p18, .int .i64 p19, .string p20, .int .i64 p21, .int .i64 p22, .slice p23 p24 p25, .int .i64 p26, .string p27, .slice none 0 0, .int .i64 p28, .int .i64 p29, .slice none 0 0, .slice none 0 0, .int .i64 p30]
@[reducible] def kc50 (p0 : Int) (p1 : Int) (p2 : Bool) (p3 : Int) (p4 : ByteArray) (p5 : Int) (p6 : Int) (p7 : ByteArray) (p8 : Int) (p9 : Int) (p10 : Option Addr) (p11 : Nat) (p12 : Nat) : List Value := [.int .i64 32, .int .i64 2, .int .i64 0, .int .i64 2, .int .i64 1, .int .i64 9, .int .i64 3, .int .i64 1, .int .i64 0, .int .i64 0, .int .i64 0, .int .i64 0, .slice none 0 0, .slice none 0 0, .slice none 0 0, .int .i64 0, .int .i64 0, .int .i64 0, .int .i64 0, .int .i64 0, .int .i64 0, .int .i64 0, .int .i64 0, .int .i64 0, .slice none 0 0, .slice none 0 0, .slice none 0 0, .int .i64 p0, .int .i64 p1, .bool p2, .int .i64 p3, .string p4, .int .i64 p5, .int .i64 p6, .string p7, .int .i64 p8, .int .i64 p9, .slice p10 p11 p12, .int .i64 0, .string (ByteArray.mk #[]), .slice none 0 0, .int .i64 0, .int .i64 0, .slice none 0 0, .slice none 0 0, .int .i64 0]
@[reducible] def kc51 (p0 : Int) (p1 : Int) (p2 : Int) (p3 : Option Addr) (p4 : Nat) (p5 : Nat) (p6 : Option Addr) (p7 : Nat) (p8 : Nat) (p9 : Option Addr) (p10 : Nat) (p11 : Nat) (p12 : ByteArray) (p13 : Int) (p14 : Int) (p15 : Option Addr) (p16 : Nat) (p17 : Nat) (p18 : Option Addr) (p19 : Nat) : List Value := [.bool true, .int .i64 p0, .int .i64 p1, .int .i64 p2, .slice p3 p4 p5, .slice p6 p7 p8, .slice p9 p10 p11, .bool true, .string p12, .int .i64 p13, .int .i64 p14, .slice p15 p16 p17, .bool false, .bool false, .string (ByteArray.mk #[]), .slice p18 1 p19]
@[reducible] def kc52 (p0 : Int) (p1 : Int) (p2 : Int) (p3 : Int) (p4 : Int) (p5 : Int) (p6 : Int) (p7 : Int) (p8 : Int) (p9 : Int) (p10 : Int) (p11 : Int) (p12 : Int) (p13 : Int) (p14 : Int) (p15 : Int) (p16 : Int) (p17 : Int) (p18 : Int) (p19 : Int) (p20 : Int) (p21 : Int) (p22 : Int) (p23 : Bool) (p24 : Int) (p25 : ByteArray) (p26 : Int) (p27 : Int) (p28 : ByteArray) (p29 : Int) (p30 : Int) (p31 : Int) (p32 : ByteArray) (p33 : Option Addr) (p34 : Nat) (p35 : Nat) (p36 : Int) (p37 : Int) (p38 : Int) (p39 : Int) (p40 : Int) (p41 : Bool) (p42 : Int) (p43 : ByteArray) (p44 : Int) (p45 : Int) (p46 : ByteArray) (p47 : Int) (p48 : Int) (p49 : Int) (p50 : Option Addr) (p51 : Nat) : List Value := [.int .i64 p0, .int .i64 p1, .int .i64 p2, .int .i64 p3, .int .i64 p4, .int .i64 p5, .int .i64 p6, .int .i64 p7, .int .i64 p8, .int .i64 p9, .int .i64 p10, .int .i64 p11, .slice none 0 0, .slice none 0 0, .slice none 0 0, .int .i64 p12, .int .i64 p13, .int .i64 p14, .int .i64 p15, .int .i64 p16, .int .i64 p17, .int .i64 p18, .int .i64 p19, .int .i64 p20, .slice none 0 0, .slice none 0 0, .slice none 0 0, .int .i64 p21, .int .i64 p22, .bool p23, .int .i64 p24, .string p25, .int .i64 p26, .int .i64 p27, .string p28, .int .i64 p29, .int .i64 p30, .slice none 0 0, .int .i64 p31, .string p32, .slice p33 p34 p35, .int .i64 p36, .int .i64 p37, .slice none 0 0, .slice none 0 0, .int .i64 p38, .bool true, .int .i64 p39, .int .i64 p40, .bool p41, .int .i64 p42, .string p43, .int .i64 p44, .int .i64 p45, .string p46, .int .i64 p47, .int .i64 p48, .slice none 0 0, .int .i64 p49, .slice p50 1 p51, .bool false]
@[reducible] def kc53 (p0 : Int) (p1 : Int) (p2 : Int) (p3 : Option Addr) (p4 : Nat) (p5 : Nat) (p6 : Option Addr) (p7 : Nat) (p8 : Nat) (p9 : Option Addr) (p10 : Nat) (p11 : Nat) (p12 : ByteArray) : List Value := [.bool true, .int .i64 p0, .int .i64 p1, .int .i64 p2, .slice p3 p4 p5, .slice p6 p7 p8, .slice p9 p10 p11, .bool false, .string (ByteArray.mk #[]), .int .i64 0, .int .i64 0, .slice none 0 0, .bool true, .bool false, .string p12, .slice none 0 0]
@[reducible] def kc54 (p0 : Int) (p1 : Int) (p2 : Int) (p3 : Option Addr) (p4 : Nat) (p5 : Nat) (p6 : Option Addr) (p7 : Nat) (p8 : Nat) (p9 : Option Addr) (p10 : Nat) (p11 : Nat) (p12 : ByteArray) (p13 : Int) (p14 : Int) : List Value := [.bool true, .int .i64 p0, .int .i64 p1, .int .i64 p2, .slice p3 p4 p5, .slice p6 p7 p8, .slice p9 p10 p11, .bool true, .string p12, .int .i64 p13, .int .i64 p14, .slice none 0 0, .bool false, .bool false, .string (ByteArray.mk #[]), .slice none 0 0]
@[reducible] def kc55 (p0 : Int) (p1 : Int) (p2 : Int) (p3 : Option Addr) (p4 : Nat) (p5 : Nat) (p6 : Option Addr) (p7 : Nat) (p8 : Nat) (p9 : Option Addr) (p10 : Nat) (p11 : Nat) (p12 : Bool) (p13 : ByteArray) (p14 : Int) (p15 : Int) (p16 : Bool) (p17 : ByteArray) : List Value := [.bool true, .int .i64 p0, .int .i64 p1, .int .i64 p2, .slice p3 p4 p5, .slice p6 p7 p8, .slice p9 p10 p11, .bool p12, .string p13, .int .i64 p14, .int .i64 p15, .slice none 0 0, .bool p16, .bool false, .string p17, .slice none 0 0]
@[reducible] def kc56 (p0 : Value) (p1 : Value) (p2 : Value) (p3 : Value) (p4 : Value) (p5 : Value) (p6 : Value) (p7 : Value) (p8 : Value) (p9 : Value) (p10 : Value) (p11 : Value) (p12 : Value) (p13 : Value) (p14 : Value) (p15 : Value) (p16 : Value) (p17 : Value) (p18 : Value) (p19 : Value) (p20 : Value) (p21 : Value) (p22 : Value) (p23 : Value) (p24 : Value) (p25 : Value) (p26 : Value) (p27 : Value) (p28 : Value) (p29 : Value) (p30 : Value) (p31 : Value) (p32 : Value) (p33 : Value) (p34 : Value) (p35 : Value) (p36 : Value) (p37 : Value) (p38 : Value) (p39 : Value) (p40 : Value) (p41 : Value) (p42 : Value) (p43 : Value) (p44 : Value) (p45 : Value) (p46 : Int) (p47 : Int) (p48 : Bool) (p49 : Int) (p50 : ByteArray) (p51 : Int) (p52 : Int) (p53 : ByteArray) (p54 : Int) (p55 : Int) (p56 : Int) (p57 : Value) : List Value := [p0, p1, p2, p3, p4, p5, p6, p7, p8, p9, p10, p11, p12, p13, p14, p15, p16, p17, p18, p19, p20, p21, p22, p23, p24, p25, p26, p27, p28, p29, p30, p31, p32, p33, p34, p35, p36, p37, p38, p39, p40, p41, p42, p43, p44, p45, .bool true, .int .i64 p46, .int .i64 p47, .bool p48, .int .i64 p49, .string p50, .int .i64 p51, .int .i64 p52, .string p53, .int .i64 p54, .int .i64 p55, .slice none 0 0, .int .i64 p56, p57, .bool false]
@[reducible] def kc57 (p0 : Int) (p1 : Int) (p2 : Int) (p3 : Int) (p4 : Int) (p5 : Int) (p6 : Int) (p7 : Int) (p8 : Int) (p9 : Int) (p10 : Int) (p11 : Int) (p12 : Int) (p13 : Int) (p14 : Int) (p15 : Int) (p16 : Int) (p17 : Int) (p18 : Int) (p19 : Bool) (p20 : Int) (p21 : ByteArray) (p22 : Int) (p23 : Int) (p24 : ByteArray) (p25 : Int) (p26 : Int) (p27 : Int) (p28 : ByteArray) (p29 : Int) (p30 : Int) (p31 : Int) : List Value := [.int .i64 p0, .int .i64 2, .int .i64 0, .int .i64 2, .int .i64 1, .int .i64 p1, .int .i64 p2, .int .i64 p3, .int .i64 p4, .int .i64 p5, .int .i64 p6, .int .i64 p7, .slice none 0 0, .slice none 0 0, .slice none 0 0, .int .i64 p8, .int .i64 p9, .int .i64 p10, .int .i64 p11, .int .i64 p12, .int .i64 p13, .int .i64 p14, .int .i64 p15, .int .i64 p16, .slice none 0 0, .slice none 0 0, .slice none 0 0, .int .i64 p17, .int .i64 p18, .bool p19, .int .i64 p20, .string p21, .int .i64 p22, .int .i64 p23, .string p24, .int .i64 p25, .int .i64 p26, .slice none 0 0, .int .i64 p27, .string p28, .slice none 0 0, .int .i64 p29, .int .i64 p30, .slice none 0 0, .slice none 0 0, .int .i64 p31]
@[reducible] def kc58 (p0 : Int) (p1 : Int) (p2 : Int) (p3 : Int) (p4 : Int) (p5 : Int) (p6 : Int) (p7 : Int) (p8 : Int) (p9 : Int) (p10 : Int) (p11 : Int) (p12 : Int) (p13 : Int) (p14 : Int) (p15 : Bool) (p16 : Int) (p17 : ByteArray) (p18 : Int) (p19 : Int) (p20 : ByteArray) (p21 : Int) (p22 : Int) (p23 : Int) (p24 : ByteArray) (p25 : Int) (p26 : Int) (p27 : Int) : List Value := [.int .i64 p0, .int .i64 2, .int .i64 0, .int .i64 2, .int .i64 1, .int .i64 9, .int .i64 3, .int .i64 1, .int .i64 0, .int .i64 p1, .int .i64 p2, .int .i64 p3, .slice none 0 0, .slice none 0 0, .slice none 0 0, .int .i64 p4, .int .i64 p5, .int .i64 p6, .int .i64 p7, .int .i64 p8, .int .i64 p9, .int .i64 p10, .int .i64 p11, .int .i64 p12, .slice none 0 0, .slice none 0 0, .slice none 0 0, .int .i64 p13, .int .i64 p14, .bool p15, .int .i64 p16, .string p17, .int .i64 p18, .int .i64 p19, .string p20, .int .i64 p21, .int .i64 p22, .slice none 0 0, .int .i64 p23, .string p24, .slice none 0 0, .int .i64 p25, .int .i64 p26, .slice none 0 0, .slice none 0 0, .int .i64 p27]
@[reducible] def kc60 (p0 : Int) (p1 : Int) (p2 : Bool) (p3 : Int) (p4 : ByteArray) (p5 : Int) (p6 : Int) (p7 : ByteArray) (p8 : Int) (p9 : Int) : List Value := [.int .i64 32, .int .i64 2, .int .i64 0, .int .i64 2, .int .i64 1, .int .i64 9, .int .i64 3, .int .i64 1, .int .i64 0, .int .i64 0, .int .i64 0, .int .i64 0, .slice none 0 0, .slice none 0 0, .slice none 0 0, .int .i64 0, .int .i64 0, .int .i64 0, .int .i64 0, .int .i64 0, .int .i64 0, .int .i64 0, .int .i64 0, .int .i64 0, .slice none 0 0, .slice none 0 0, .slice none 0 0, .int .i64 p0, .int .i64 p1, .bool p2, .int .i64 p3, .string p4, .int .i64 p5, .int .i64 p6, .string p7, .int .i64 p8, .int .i64 p9, .slice none 0 0, .int .i64 0, .string (ByteArray.mk #[]), .slice none 0 0, .int .i64 0, .int .i64 0, .slice none 0 0, .slice none 0 0, .int .i64 0]
@[reducible] def kc61 (p0 : Int) (p1 : Int) (p2 : Bool) (p3 : Int) (p4 : ByteArray) (p5 : Int) (p6 : Int) : List Value := [.int .i64 32, .int .i64 2, .int .i64 0, .int .i64 2, .int .i64 1, .int .i64 9, .int .i64 3, .int .i64 1, .int .i64 0, .int .i64 0, .int .i64 0, .int .i64 0, .slice none 0 0, .slice none 0 0, .slice none 0 0, .int .i64 0, .int .i64 0, .int .i64 0, .int .i64 0, .int .i64 0, .int .i64 0, .int .i64 0, .int .i64 0, .int .i64 0, .slice none 0 0, .slice none 0 0, .slice none 0 0, .int .i64 p0, .int .i64 p1, .bool p2, .int .i64 p3, .string p4, .int .i64 p5, .int .i64 p6, .string (ByteArray.mk #[]), .int .i64 0, .int .i64 0, .slice none 0 0, .int .i64 0, .string (ByteArray.mk #[]), .slice none 0 0, .int .i64 0, .int .i64 0, .slice none 0 0, .slice none 0 0, .int .i64 0]
@[reducible] def kc62 (p0 : Int) (p1 : Int) (p2 : Int) (p3 : Option Addr) (p4 : Nat) (p5 : Nat) (p6 : Option Addr) (p7 : Nat) (p8 : Nat) (p9 : Option Addr) (p10 : Nat) (p11 : Nat) (p12 : Bool) (p13 : ByteArray) (p14 : Int) (p15 : Int) (p16 : Bool) (p17 : ByteArray) (p18 : Option Addr) (p19 : Nat) : List Value := [.bool true, .int .i64 p0, .int .i64 p1, .int .i64 p2, .slice p3 p4 p5, .slice p6 p7 p8, .slice p9 p10 p11, .bool p12, .string p13, .int .i64 p14, .int .i64 p15, .slice none 0 0, .bool p16, .bool false, .string p17, .slice p18 1 p19]
@[reducible] def kc63 (p0 : Int) (p1 : Int) (p2 : Int) (p3 : Int) (p4 : Int) (p5 : Int) (p6 : Int) (p7 : Int) (p8 : Int) (p9 : Int) (p10 : Int) (p11 : Int) (p12 : Int) (p13 : Int) (p14 : Int) (p15 : Int) (p16 : Int) (p17 : Int) (p18 : Int) (p19 : Int) (p20 : Int) (p21 : Int) (p22 : Int) (p23 : Bool) (p24 : Int) (p25 : ByteArray) (p26 : Int) (p27 : Int) (p28 : ByteArray) (p29 : Int) (p30 : Int) (p31 : Int) (p32 : ByteArray) (p33 : Option Addr) (p34 : Nat) (p35 : Nat) (p36 : Int) (p37 : Int) (p38 : Int) (p39 : Int) (p40 : Option Addr) (p41 : Nat) : List Value := [.int .i64 p0, .int .i64 p1, .int .i64 p2, .int .i64 p3, .int .i64 p4, .int .i64 p5, .int .i64 p6, .int .i64 p7, .int .i64 p8, .int .i64 p9, .int .i64 p10, .int .i64 p11, .slice none 0 0, .slice none 0 0, .slice none 0 0, .int .i64 p12, .int .i64 p13, .int .i64 p14, .int .i64 p15, .int .i64 p16, .int .i64 p17, .int .i64 p18, .int .i64 p19, .int .i64 p20, .slice none 0 0, .slice none 0 0, .slice none 0 0, .int .i64 p21, .int .i64 p22, .bool p23, .int .i64 p24, .string p25, .int .i64 p26, .int .i64 p27, .string p28, .int .i64 p29, .int .i64 p30, .slice none 0 0, .int .i64 p31, .string p32, .slice p33 p34 p35, .int .i64 p36, .int .i64 p37, .slice none 0 0, .slice none 0 0, .int .i64 p38, .bool false, .int .i64 0, .int .i64 0, .bool false, .int .i64 0, .string (ByteArray.mk #[]), .int .i64 0, .int .i64 0, .string (ByteArray.mk #[]), .int .i64 0, .int .i64 0, .slice none 0 0, .int .i64 p39, .slice p40 1 p41, .bool false]
@[reducible] def kc64 (p0 : Value) (p1 : Value) (p2 : Value) (p3 : Value) (p4 : Value) (p5 : Value) (p6 : Value) (p7 : Value) (p8 : Value) (p9 : Value) (p10 : Value) (p11 : Value) (p12 : Value) (p13 : Value) (p14 : Value) (p15 : Value) (p16 : Value) (p17 : Value) (p18 : Value) (p19 : Value) (p20 : Value) (p21 : Value) (p22 : Value) (p23 : Value) (p24 : Value) (p25 : Value) (p26 : Value) (p27 : Value) (p28 : Value) (p29 : Value) (p30 : Value) (p31 : Value) (p32 : Value) (p33 : Value) (p34 : Value) (p35 : Value) (p36 : Value) (p37 : Value) (p38 : Value) (p39 : Value) (p40 : Value) (p41 : Value) (p42 : Value) (p43 : Value) (p44 : Value) (p45 : Value) (p46 : Int) (p47 : Int) (p48 : Bool) (p49 : Int) (p50 : ByteArray) (p51 : Int) (p52 : Int) (p53 : ByteArray) (p54 : Int) (p55 : Int) (p56 : Int) (p57 : Value) : List Value := [p0, p1, p2, p3, p4, p5, p6, p7, p8, p9, p10, p11, p12, p13, p14, p15, p16, p17, p18, p19, p20, p21, p22, p23, p24, p25, p26, p27, p28, p29, p30, p31, p32, p33, p34, p35, p36, p37, p38, p39, p40, p41, p42, p43, p44, p45, .bool false, .int .i64 p46, .int .i64 p47, .bool p48, .int .i64 p49, .string p50, .int .i64 p51, .int .i64 p52, .string p53, .int .i64 p54, .int .i64 p55, .slice none 0 0, .int .i64 p56, p57, .bool false]
@[reducible] def kc66 (p0 : Int) : List Value := [.int .i64 34, .int .i64 2, .int .i64 0, .int .i64 2, .int .i64 1, .int .i64 9, .int .i64 3, .int .i64 1, .int .i64 0, .int .i64 0, .int .i64 p0, .int .i64 0, .slice none 0 0, .slice none 0 0, .slice none 0 0, .int .i64 0, .int .i64 0, .int .i64 0, .int .i64 0, .int .i64 0, .int .i64 0, .int .i64 0, .int .i64 0, .int .i64 0, .slice none 0 0, .slice none 0 0, .slice none 0 0, .int .i64 0, .int .i64 0, .bool false, .int .i64 0, .string (ByteArray.mk #[]), .int .i64 0, .int .i64 0, .string (ByteArray.mk #[]), .int .i64 0, .int .i64 0, .slice none 0 0, .int .i64 0, .string (ByteArray.mk #[]), .slice none 0 0, .int .i64 0, .int .i64 0, .slice none 0 0, .slice none 0 0, .int .i64 0]
@[reducible] def kc67 (p0 : Int) (p1 : Int) (p2 : Int) (p3 : Int) (p4 : Int) (p5 : Int) (p6 : Int) (p7 : Int) (p8 : Int) (p9 : Int) (p10 : Int) (p11 : Int) (p12 : Int) (p13 : Int) (p14 : Int) (p15 : Int) (p16 : Int) (p17 : Int) (p18 : Int) (p19 : Int) (p20 : Int) (p21 : Int) (p22 : Int) (p23 : Bool) (p24 : Int) (p25 : ByteArray) (p26 : Int) (p27 : Int) (p28 : ByteArray) (p29 : Int) (p30 : Int) (p31 : Int) (p32 : ByteArray) (p33 : Option Addr) (p34 : Nat) (p35 : Nat) (p36 : Int) (p37 : Int) (p38 : Int) (p39 : Int) (p40 : Int) (p41 : Bool) (p42 : Int) (p43 : ByteArray) (p44 : Int) (p45 : Int) (p46 : ByteArray) (p47 : Int) (p48 : Int) (p49 : Int) (p50 : Option Addr) (p51 : Nat) : List Value := [.int .i64 p0, .int .i64 p1, .int .i64 p2, .int .i64 p3, .int .i64 p4, .int .i64 p5, .int .i64 p6, .int .i64 p7, .int .i64 p8, .int .i64 p9, .int .i64 p10, .int .i64 p11, .slice none 0 0, .slice none 0 0, .slice none 0 0, .int .i64 p12, .int .i64 p13, .int .i64 p14, .int .i64 p15, .int .i64 p16, .int .i64 p17, .int .i64 p18, .int .i64 p19, .int .i64 p20, .slice none 0 0, .slice none 0 0, .slice none 0 0, .int .i64 p21, .int .i64 p22, .bool p23, .int .i64 p24, .string p25, .int .i64 p26, .int .i64 p27, .string p28, .int .i64 p29, .int .i64 p30, .slice none 0 0, .int .i64 p31, .string p32, .slice p33 p34 p35, .int .i64 p36, .int .i64 p37, .slice none 0 0, .slice none 0 0, .int .i64 p38, .bool false, .int .i64 p39, .int .i64 p40, .bool p41, .int .i64 p42, .string p43, .int .i64 p44, .int .i64 p45, .string p46, .int .i64 p47, .int .i64 p48, .slice none 0 0, .int .i64 p49, .slice p50 1 p51, .bool false]
@[reducible] def kc69 (p0 : Int) (p1 : Int) (p2 : Int) (p3 : Int) : List Value := [.int .i64 31, .int .i64 2, .int .i64 0, .int .i64 p0, .int .i64 p1, .int .i64 9, .int .i64 3, .int .i64 1, .int .i64 0, .int .i64 p2, .int .i64 p3, .int .i64 0, .slice none 0 0, .slice none 0 0, .slice none 0 0, .int .i64 0, .int .i64 0, .int .i64 0, .int .i64 0, .int .i64 0, .int .i64 0, .int .i64 0, .int .i64 0, .int .i64 0, .slice none 0 0, .slice none 0 0, .slice none 0 0, .int .i64 0, .int .i64 0, .bool false, .int .i64 0, .string (ByteArray.mk #[]), .int .i64 0, .int .i64 0, .string (ByteArray.mk #[]), .int .i64 0, .int .i64 0, .slice none 0 0, .int .i64 0, .string (ByteArray.mk #[]), .slice none 0 0, .int .i64 0, .int .i64 0, .slice none 0 0, .slice none 0 0, .int .i64 22]
@[reducible] def kc70 (p0 : ByteArray) (p1 : Int) (p2 : Int) (p3 : Int) : List Value := [.int .i64 31, .int .i64 2, .int .i64 0, .int .i64 3, .int .i64 0, .int .i64 9, .int .i64 3, .int .i64 1, .int .i64 0, .int .i64 5, .int .i64 1, .int .i64 0, .slice none 0 0, .slice none 0 0, .slice none 0 0, .int .i64 0, .int .i64 0, .int .i64 0, .int .i64 0, .int .i64 0, .int .i64 0, .int .i64 0, .int .i64 0, .int .i64 0, .slice none 0 0, .slice none 0 0, .slice none 0 0, .int .i64 0, .int .i64 0, .bool false, .int .i64 0, .string (ByteArray.mk #[]), .int .i64 0, .int .i64 0, .string p0, .int .i64 p1, .int .i64 p2, .slice none 0 0, .int .i64 0, .string (ByteArray.mk #[]), .slice none 0 0, .int .i64 0, .int .i64 0, .slice none 0 0, .slice none 0 0, .int .i64 p3]
@[reducible] def kc72 (p0 : Int) (p1 : Int) (p2 : Int) (p3 : Option Addr) (p4 : Nat) (p5 : Nat) (p6 : Option Addr) (p7 : Nat) (p8 : Nat) (p9 : Option Addr) (p10 : Nat) (p11 : Nat) (p12 : Int) (p13 : Int) (p14 : Option Addr) (p15 : Nat) (p16 : Nat) (p17 : Option Addr) (p18 : Nat) : List Value := [.bool true, .int .i64 p0, .int .i64 p1, .int .i64 p2, .slice p3 p4 p5, .slice p6 p7 p8, .slice p9 p10 p11, .bool true, .string (ByteArray.mk #[97]), .int .i64 p12, .int .i64 p13, .slice p14 p15 p16, .bool false, .bool false, .string (ByteArray.mk #[]), .slice p17 1 p18]
@[reducible] def kc73 (p0 : Int) (p1 : Int) (p2 : Bool) (p3 : Int) (p4 : Int) (p5 : Int) (p6 : Option Addr) (p7 : Nat) (p8 : Nat) : List Value := [.int .i64 32, .int .i64 2, .int .i64 0, .int .i64 2, .int .i64 1, .int .i64 9, .int .i64 3, .int .i64 1, .int .i64 0, .int .i64 0, .int .i64 0, .int .i64 0, .slice none 0 0, .slice none 0 0, .slice none 0 0, .int .i64 0, .int .i64 0, .int .i64 0, .int .i64 0, .int .i64 0, .int .i64 0, .int .i64 0, .int .i64 0, .int .i64 0, .slice none 0 0, .slice none 0 0, .slice none 0 0, .int .i64 p0, .int .i64 p1, .bool p2, .int .i64 p3, .string (ByteArray.mk #[97]), .int .i64 5, .int .i64 1, .string (ByteArray.mk #[97]), .int .i64 p4, .int .i64 p5, .slice p6 p7 p8, .int .i64 0, .string (ByteArray.mk #[]), .slice none 0 0, .int .i64 0, .int .i64 0, .slice none 0 0, .slice none 0 0, .int .i64 0]
@[reducible] def kc74 (p0 : Option Addr) (p1 : Nat) (p2 : Nat) (p3 : Int) (p4 : Int) (p5 : Bool) (p6 : Int) (p7 : Int) (p8 : Int) (p9 : Option Addr) (p10 : Nat) (p11 : Nat) (p12 : Option Addr) (p13 : Nat) : List Value := [.int .i64 30, .int .i64 3, .int .i64 0, .int .i64 2, .int .i64 0, .int .i64 0, .int .i64 0, .int .i64 1, .int .i64 0, .int .i64 5, .int .i64 1, .int .i64 0, .slice none 0 0, .slice none 0 0, .slice none 0 0, .int .i64 0, .int .i64 0, .int .i64 0, .int .i64 0, .int .i64 0, .int .i64 0, .int .i64 0, .int .i64 0, .int .i64 0, .slice none 0 0, .slice none 0 0, .slice none 0 0, .int .i64 0, .int .i64 0, .bool false, .int .i64 0, .string (ByteArray.mk #[]), .int .i64 0, .int .i64 0, .string (ByteArray.mk #[]), .int .i64 0, .int .i64 0, .slice none 0 0, .int .i64 2, .string (ByteArray.mk #[97]), .slice p0 p1 p2, .int .i64 0, .int .i64 0, .slice none 0 0, .slice none 0 0, .int .i64 0, .bool true, .int .i64 p3, .int .i64 p4, .bool p5, .int .i64 p6, .string (ByteArray.mk #[97]), .int .i64 5, .int .i64 1, .string (ByteArray.mk #[97]), .int .i64 p7, .int .i64 p8, .slice p9 p10 p11, .int .i64 0, .slice p12 1 p13, .bool false]
@[reducible] def kc75 (p0 : Option Addr) (p1 : Nat) (p2 : Int) (p3 : Int) (p4 : Int) (p5 : Option Addr) (p6 : Nat) (p7 : Nat) (p8 : Option Addr) (p9 : Nat) (p10 : Nat) (p11 : Option Addr) (p12 : Nat) (p13 : Nat) (p14 : Option Addr) (p15 : Nat) (p16 : Nat) : List Value := [.int .i64 1, .int .i64 0, .int .i64 3, .int .i64 0, .int .i64 9, .slice p0 1 p1, .int .i64 p2, .int .i64 p3, .int .i64 p4, .slice p5 p6 p7, .slice p8 p9 p10, .slice p11 p12 p13, .slice p14 0 p15, .pointer (some ⟨p16, 0, none⟩), .bool false, .int .i64 0, .bool true]
@[reducible] def kc76 (p0 : Int) (p1 : Int) (p2 : Bool) (p3 : Int) : List Value := [.int .i64 32, .int .i64 2, .int .i64 0, .int .i64 2, .int .i64 1, .int .i64 9, .int .i64 3, .int .i64 1, .int .i64 0, .int .i64 0, .int .i64 0, .int .i64 0, .slice none 0 0, .slice none 0 0, .slice none 0 0, .int .i64 0, .int .i64 0, .int .i64 0, .int .i64 0, .int .i64 0, .int .i64 0, .int .i64 0, .int .i64 0, .int .i64 0, .slice none 0 0, .slice none 0 0, .slice none 0 0, .int .i64 p0, .int .i64 p1, .bool p2, .int .i64 p3, .string (ByteArray.mk #[97]), .int .i64 5, .int .i64 1, .string (ByteArray.mk #[]), .int .i64 0, .int .i64 0, .slice none 0 0, .int .i64 0, .string (ByteArray.mk #[]), .slice none 0 0, .int .i64 0, .int .i64 0, .slice none 0 0, .slice none 0 0, .int .i64 0]
@[reducible] def kc77 (p0 : Option Addr) (p1 : Nat) (p2 : Nat) (p3 : Int) (p4 : Int) (p5 : Bool) (p6 : Int) (p7 : Option Addr) (p8 : Nat) : List Value := [.int .i64 30, .int .i64 3, .int .i64 0, .int .i64 2, .int .i64 0, .int .i64 0, .int .i64 0, .int .i64 1, .int .i64 0, .int .i64 5, .int .i64 1, .int .i64 0, .slice none 0 0, .slice none 0 0, .slice none 0 0, .int .i64 0, .int .i64 0, .int .i64 0, .int .i64 0, .int .i64 0, .int .i64 0, .int .i64 0, .int .i64 0, .int .i64 0, .slice none 0 0, .slice none 0 0, .slice none 0 0, .int .i64 0, .int .i64 0, .bool false, .int .i64 0, .string (ByteArray.mk #[]), .int .i64 0, .int .i64 0, .string (ByteArray.mk #[]), .int .i64 0, .int .i64 0, .slice none 0 0, .int .i64 2, .string (ByteArray.mk #[97]), .slice p0 p1 p2, .int .i64 0, .int .i64 0, .slice none 0 0, .slice none 0 0, .int .i64 0, .bool true, .int .i64 p3, .int .i64 p4, .bool p5, .int .i64 p6, .string (ByteArray.mk #[97]), .int .i64 5, .int .i64 1, .string (ByteArray.mk #[]), .int .i64 0, .int .i64 0, .slice none 0 0, .int .i64 0, .slice p7 1 p8, .bool false]
@[reducible] def kc80 (p0 : Value) (p1 : Value) (p2 : Value) (p3 : Value) (p4 : Value) (p5 : Value) (p6 : Value) (p7 : Value) (p8 : Value) (p9 : Value) (p10 : Value) (p11 : Value) (p12 : Value) (p13 : Value) (p14 : Value) (p15 : Value) (p16 : Value) (p17 : Value) (p18 : Value) (p19 : Value) (p20 : Value) (p21 : Value) (p22 : Value) (p23 : Value) (p24 : Value) (p25 : Value) (p26 : Value) (p27 : Value) (p28 : Value) (p29 : Value) (p30 : Value) (p31 : Value) (p32 : Value) (p33 : Value) (p34 : Value) (p35 : Value) (p36 : Value) (p37 : Value) (p38 : Value) (p39 : Value) (p40 : Value) (p41 : Value) (p42 : Value) (p43 : Value) (p44 : Value) (p45 : Value) (p46 : Value) (p47 : Value) (p48 : Value) (p49 : Value) (p50 : Value) (p51 : Value) (p52 : Value) (p53 : Value) (p54 : Value) (p55 : Value) (p56 : Value) (p57 : Value) (p58 : Value) (p59 : Value) (p60 : Value) : List Value := [p0, p1, p2, p3, p4, p5, p6, p7, p8, p9, p10, p11, p12, p13, p14, p15, p16, p17, p18, p19, p20, p21, p22, p23, p24, p25, p26, p27, p28, p29, p30, p31, p32, p33, p34, p35, p36, p37, p38, p39, p40, p41, p42, p43, p44, p45, p46, p47, p48, p49, p50, p51, p52, p53, p54, p55, p56, p57, p58, p59, p60]
@[reducible] def kc81 (p0 : Value) (p1 : Value) (p2 : Value) (p3 : Value) (p4 : Value) (p5 : Value) (p6 : Value) (p7 : Value) (p8 : Value) (p9 : Value) (p10 : Value) (p11 : Value) (p12 : Value) (p13 : Nat) (p14 : Value) (p15 : Value) : List Value := [p0, p1, p2, p3, p4, p5, p6, p7, p8, p9, p10, p11, p12, .pointer (some ⟨p13, 0, none⟩), p14, p15, .bool true]
@[reducible] def kc82 (p0 : Int) (p1 : Int) (p2 : Int) (p3 : Int) (p4 : Int) (p5 : Int) (p6 : Int) (p7 : Int) (p8 : Int) (p9 : Int) (p10 : Int) (p11 : Int) (p12 : Int) (p13 : Int) (p14 : Int) (p15 : Int) (p16 : Int) (p17 : Int) (p18 : Int) (p19 : Int) (p20 : Int) (p21 : Int) (p22 : Bool) (p23 : Int) (p24 : ByteArray) (p25 : Int) (p26 : Int) (p27 : ByteArray) (p28 : Int) (p29 : Int) (p30 : Int) (p31 : ByteArray) (p32 : Int) (p33 : Int) (p34 : Int) : List Value := [.int .i64 33, .int .i64 p0, .int .i64 p1, .int .i64 p2, .int .i64 p3, .int .i64 p4, .int .i64 p5, .int .i64 p6, .int .i64 p7, .int .i64 p8, .int .i64 p9, .int .i64 p10, .slice none 0 0, .slice none 0 0, .slice none 0 0, .int .i64 p11, .int .i64 p12, .int .i64 p13, .int .i64 p14, .int .i64 p15, .int .i64 p16, .int .i64 p17, .int .i64 p18, .int .i64 p19, .slice none 0 0, .slice none 0 0, .slice none 0 0, .int .i64 p20, .int .i64 p21, .bool p22, .int .i64 p23, .string p24, .int .i64 p25, .int .i64 p26, .string p27, .int .i64 p28, .int .i64 p29, .slice none 0 0, .int .i64 p30, .string p31, .slice none 0 0, .int .i64 p32, .int .i64 p33, .slice none 0 0, .slice none 0 0, .int .i64 p34]
@[reducible] def kc83 (p0 : Int) (p1 : Int) (p2 : Int) (p3 : Int) (p4 : Int) (p5 : Int) (p6 : Int) (p7 : Int) (p8 : Int) (p9 : Int) (p10 : Int) (p11 : Int) (p12 : Int) (p13 : Int) (p14 : Int) (p15 : Int) (p16 : Int) (p17 : Int) (p18 : Int) (p19 : Int) (p20 : Int) (p21 : Int) (p22 : Int) (p23 : Bool) (p24 : Int) (p25 : ByteArray) (p26 : Int) (p27 : Int) (p28 : ByteArray) (p29 : Int) (p30 : Int) (p31 : Int) (p32 : ByteArray) (p33 : Option Addr) (p34 : Nat) (p35 : Nat) (p36 : Int) (p37 : Int) (p38 : Int) (p39 : Int) (p40 : Int) (p41 : Bool) (p42 : Int) (p43 : ByteArray) (p44 : Int) (p45 : Int) (p46 : ByteArray) (p47 : Int) (p48 : Int) (p49 : Option Addr) (p50 : Nat) (p51 : Nat) (p52 : Int) (p53 : Option Addr) (p54 : Nat) : List Value := [.int .i64 p0, .int .i64 p1, .int .i64 p2, .int .i64 p3, .int .i64 p4, .int .i64 p5, .int .i64 p6, .int .i64 p7, .int .i64 p8, .int .i64 p9, .int .i64 p10, .int .i64 p11, .slice none 0 0, .slice none 0 0, .slice none 0 0, .int .i64 p12, .int .i64 p13, .int .i64 p14, .int .i64 p15, .int .i64 p16, .int .i64 p17, .int .i64 p18, .int .i64 p19, .int .i64 p20, .slice none 0 0, .slice none 0 0, .slice none 0 0, .int .i64 p21, .int .i64 p22, .bool p23, .int .i64 p24, .string p25, .int .i64 p26, .int .i64 p27, .string p28, .int .i64 p29, .int .i64 p30, .slice none 0 0, .int .i64 p31, .string p32, .slice p33 p34 p35, .int .i64 p36, .int .i64 p37, .slice none 0 0, .slice none 0 0, .int .i64 p38, .bool true, .int .i64 p39, .int .i64 p40, .bool p41, .int .i64 p42, .string p43, .int .i64 p44, .int .i64 p45, .string p46, .int .i64 p47, .int .i64 p48, .slice p49 p50 p51, .int .i64 p52, .slice p53 0 p54, .bool false]
@[reducible] def kc84 (p0 : Int) (p1 : Int) (p2 : Bool) (p3 : Int) : List Value := [.int .i64 33, .int .i64 2, .int .i64 1, .int .i64 2, .int .i64 0, .int .i64 0, .int .i64 3, .int .i64 1, .int .i64 0, .int .i64 0, .int .i64 0, .int .i64 0, .slice none 0 0, .slice none 0 0, .slice none 0 0, .int .i64 0, .int .i64 0, .int .i64 0, .int .i64 0, .int .i64 0, .int .i64 0, .int .i64 0, .int .i64 0, .int .i64 0, .slice none 0 0, .slice none 0 0, .slice none 0 0, .int .i64 p0, .int .i64 p1, .bool p2, .int .i64 p3, .string (ByteArray.mk #[97]), .int .i64 5, .int .i64 1, .string (ByteArray.mk #[]), .int .i64 0, .int .i64 0, .slice none 0 0, .int .i64 0, .string (ByteArray.mk #[]), .slice none 0 0, .int .i64 0, .int .i64 0, .slice none 0 0, .slice none 0 0, .int .i64 0]
@[reducible] def kc86 (p0 : Option Addr) (p1 : Nat) (p2 : Int) (p3 : Int) (p4 : Int) (p5 : Option Addr) (p6 : Nat) (p7 : Nat) (p8 : Option Addr) (p9 : Nat) (p10 : Nat) (p11 : Option Addr) (p12 : Nat) (p13 : Nat) (p14 : Option Addr) (p15 : Nat) : List Value := [.int .i64 1, .int .i64 0, .int .i64 3, .int .i64 0, .int .i64 9, .slice p0 1 p1, .int .i64 p2, .int .i64 p3, .int .i64 p4, .slice p5 p6 p7, .slice p8 p9 p10, .slice p11 p12 p13, .slice p14 0 p15, .pointer none, .bool false, .int .i64 0, .bool true]
@[reducible] def kc87 (p0 : Value) (p1 : Value) (p2 : Value) (p3 : Value) (p4 : Value) (p5 : Value) (p6 : Value) (p7 : Value) (p8 : Value) (p9 : Value) (p10 : Value) (p11 : Value) (p12 : Value) (p13 : Value) (p14 : Value) : List Value := [p0, p1, p2, p3, p4, p5, p6, p7, p8, p9, p10, p11, p12, .pointer none, p13, p14, .bool true]
@[reducible] def kc88 (p0 : Int) (p1 : Int) (p2 : Int) (p3 : Int) (p4 : Int) (p5 : Int) (p6 : Int) (p7 : Int) (p8 : Int) (p9 : Int) (p10 : Int) (p11 : Int) (p12 : Int) (p13 : Int) (p14 : Int) (p15 : Int) (p16 : Int) (p17 : Int) (p18 : Int) (p19 : Int) (p20 : Int) (p21 : Int) (p22 : Int) (p23 : Bool) (p24 : Int) (p25 : ByteArray) (p26 : Int) (p27 : Int) (p28 : ByteArray) (p29 : Int) (p30 : Int) (p31 : Int) (p32 : ByteArray) (p33 : Option Addr) (p34 : Nat) (p35 : Nat) (p36 : Int) (p37 : Int) (p38 : Int) (p39 : Int) (p40 : Int) (p41 : Bool) (p42 : Int) (p43 : ByteArray) (p44 : Int) (p45 : Int) (p46 : ByteArray) (p47 : Int) (p48 : Int) (p49 : Int) (p50 : Option Addr) (p51 : Nat) : List Value := [.int .i64 p0, .int .i64 p1, .int .i64 p2, .int .i64 p3, .int .i64 p4, .int .i64 p5, .int .i64 p6, .int .i64 p7, .int .i64 p8, .int .i64 p9, .int .i64 p10, .int .i64 p11, .slice none 0 0, .slice none 0 0, .slice none 0 0, .int .i64 p12, .int .i64 p13, .int .i64 p14, .int .i64 p15, .int .i64 p16, .int .i64 p17, .int .i64 p18, .int .i64 p19, .int .i64 p20, .slice none 0 0, .slice none 0 0, .slice none 0 0, .int .i64 p21, .int .i64 p22, .bool p23, .int .i64 p24, .string p25, .int .i64 p26, .int .i64 p27, .string p28, .int .i64 p29, .int .i64 p30, .slice none 0 0, .int .i64 p31, .string p32, .slice p33 p34 p35, .int .i64 p36, .int .i64 p37, .slice none 0 0, .slice none 0 0, .int .i64 p38, .bool true, .int .i64 p39, .int .i64 p40, .bool p41, .int .i64 p42, .string p43, .int .i64 p44, .int .i64 p45, .string p46, .int .i64 p47, .int .i64 p48, .slice none 0 0, .int .i64 p49, .slice p50 0 p51, .bool false]
@[reducible] def kc90 (p0 : Option Addr) (p1 : Nat) : List Value := [.int .i64 3, .int .i64 0, .int .i64 0, .slice p0 p1 0, .slice none 0 0, .slice none 0 0]
@[reducible] def kc91 (p0 : Option Addr) (p1 : Nat) (p2 : Option Addr) (p3 : Nat) : List Value := [.int .i64 3, .int .i64 0, .int .i64 0, .slice p0 p1 0, .slice p2 p3 0, .slice none 0 0]
@[reducible] def kc92 (p0 : Option Addr) (p1 : Nat) (p2 : Option Addr) (p3 : Nat) (p4 : Option Addr) (p5 : Nat) : List Value := [.int .i64 3, .int .i64 0, .int .i64 0, .slice p0 p1 0, .slice p2 p3 0, .slice p4 p5 0]
@[reducible] def kc94 (p0 : Int) (p1 : Int) (p2 : Bool) (p3 : Int) (p4 : ByteArray) (p5 : Int) (p6 : Int) : List Value := [.int .i64 33, .int .i64 2, .int .i64 1, .int .i64 2, .int .i64 0, .int .i64 0, .int .i64 3, .int .i64 1, .int .i64 0, .int .i64 0, .int .i64 0, .int .i64 0, .slice none 0 0, .slice none 0 0, .slice none 0 0, .int .i64 0, .int .i64 0, .int .i64 0, .int .i64 0, .int .i64 0, .int .i64 0, .int .i64 0, .int .i64 0, .int .i64 0, .slice none 0 0, .slice none 0 0, .slice none 0 0, .int .i64 p0, .int .i64 p1, .bool p2, .int .i64 p3, .string p4, .int .i64 p5, .int .i64 p6, .string (ByteArray.mk #[]), .int .i64 0, .int .i64 0, .slice none 0 0, .int .i64 0, .string (ByteArray.mk #[]), .slice none 0 0, .int .i64 0, .int .i64 0, .slice none 0 0, .slice none 0 0, .int .i64 0]
@[reducible] def kc97 (p0 : Int) (p1 : Int) (p2 : Int) (p3 : Int) (p4 : Int) (p5 : Int) (p6 : Int) (p7 : Int) (p8 : Int) (p9 : Int) (p10 : Int) (p11 : Int) (p12 : Int) (p13 : Int) (p14 : Int) (p15 : Int) (p16 : Int) (p17 : Int) (p18 : Int) (p19 : Int) (p20 : Int) (p21 : Int) (p22 : Bool) (p23 : Int) (p24 : ByteArray) (p25 : Int) (p26 : Int) (p27 : ByteArray) (p28 : Int) (p29 : Int) (p30 : Int) (p31 : ByteArray) (p32 : Int) (p33 : Int) (p34 : Int) : List Value := [.int .i64 35, .int .i64 p0, .int .i64 p1, .int .i64 p2, .int .i64 p3, .int .i64 p4, .int .i64 p5, .int .i64 p6, .int .i64 p7, .int .i64 p8, .int .i64 p9, .int .i64 p10, .slice none 0 0, .slice none 0 0, .slice none 0 0, .int .i64 p11, .int .i64 p12, .int .i64 p13, .int .i64 p14, .int .i64 p15, .int .i64 p16, .int .i64 p17, .int .i64 p18, .int .i64 p19, .slice none 0 0, .slice none 0 0, .slice none 0 0, .int .i64 p20, .int .i64 p21, .bool p22, .int .i64 p23, .string p24, .int .i64 p25, .int .i64 p26, .string p27, .int .i64 p28, .int .i64 p29, .slice none 0 0, .int .i64 p30, .string p31, .slice none 0 0, .int .i64 p32, .int .i64 p33, .slice none 0 0, .slice none 0 0, .int .i64 p34]
@[reducible] def kc98 (p0 : Int) (p1 : Int) (p2 : Int) (p3 : Int) (p4 : Int) (p5 : Int) (p6 : Int) (p7 : Int) (p8 : Int) (p9 : Int) (p10 : Int) (p11 : Int) (p12 : Int) (p13 : Int) (p14 : Int) (p15 : Int) (p16 : Int) (p17 : Int) (p18 : Int) (p19 : Int) (p20 : Int) (p21 : Int) (p22 : Int) (p23 : Bool) (p24 : Int) (p25 : ByteArray) (p26 : Int) (p27 : Int) (p28 : ByteArray) (p29 : Int) (p30 : Int) (p31 : Int) (p32 : ByteArray) (p33 : Option Addr) (p34 : Nat) (p35 : Nat) (p36 : Int) (p37 : Int) (p38 : Int) (p39 : Int) (p40 : Int) (p41 : Bool) (p42 : Int) (p43 : ByteArray) (p44 : Int) (p45 : Int) (p46 : ByteArray) (p47 : Int) (p48 : Int) (p49 : Int) (p50 : Option Addr) (p51 : Nat) : List Value := [.int .i64 p0, .int .i64 p1, .int .i64 p2, .int .i64 p3, .int .i64 p4, .int .i64 p5, .int .i64 p6, .int .i64 p7, .int .i64 p8, .int .i64 p9, .int .i64 p10, .int .i64 p11, .slice none 0 0, .slice none 0 0, .slice none 0 0, .int .i64 p12, .int .i64 p13, .int .i64 p14, .int .i64 p15, .int .i64 p16, .int .i64 p17, .int .i64 p18, .int .i64 p19, .int .i64 p20, .slice none 0 0, .slice none 0 0, .slice none 0 0, .int .i64 p21, .int .i64 p22, .bool p23, .int .i64 p24, .string p25, .int .i64 p26, .int .i64 p27, .string p28, .int .i64 p29, .int .i64 p30, .slice none 0 0, .int .i64 p31, .string p32, .slice p33 p34 p35, .int .i64 p36, .int .i64 p37, .slice none 0 0, .slice none 0 0, .int .i64 p38, .bool false, .int .i64 p39, .int .i64 p40, .bool p41, .int .i64 p42, .string p43, .int .i64 p44, .int .i64 p45, .string p46, .int .i64 p47, .int .i64 p48, .slice none 0 0, .int .i64 p49, .slice p50 0 p51, .bool false]
@[reducible] def kc99 (p0 : Option Addr) (p1 : Nat) : List Value := [.int .i64 0, .int .i64 0, .int .i64 0, .int .i64 0, .int .i64 0, .int .i64 0, .int .i64 0, .int .i64 0, .int .i64 0, .int .i64 0, .int .i64 0, .int .i64 0, .slice none 0 0, .slice none 0 0, .slice none 0 0, .int .i64 0, .int .i64 0, .int .i64 0, .int .i64 0, .int .i64 0, .int .i64 0, .int .i64 0, .int .i64 0, .int .i64 0, .slice none 0 0, .slice none 0 0, .slice none 0 0, .int .i64 0, .int .i64 0, .bool false, .int .i64 0, .string (ByteArray.mk #[]), .int .i64 0, .int .i64 0, .string (ByteArray.mk #[]), .int .i64 0, .int .i64 0, .slice none 0 0, .int .i64 0, .string (ByteArray.mk #[]), .slice none 0 0, .int .i64 0, .int .i64 0, .slice none 0 0, .slice p0 p1 0, .int .i64 0]
@[reducible] def kc100 (p0 : Option Addr) (p1 : Nat) (p2 : Nat) : List Value := [.int .i64 0, .int .i64 0, .int .i64 0, .int .i64 0, .int .i64 0, .int .i64 0, .int .i64 0, .int .i64 0, .int .i64 0, .int .i64 0, .int .i64 0, .int .i64 0, .slice none 0 0, .slice none 0 0, .slice none 0 0, .int .i64 0, .int .i64 0, .int .i64 0, .int .i64 0, .int .i64 0, .int .i64 0, .int .i64 0, .int .i64 0, .int .i64 0, .slice none 0 0, .slice none 0 0, .slice none 0 0, .int .i64 0, .int .i64 0, .bool false, .int .i64 0, .string (ByteArray.mk #[]), .int .i64 0, .int .i64 0, .string (ByteArray.mk #[]), .int .i64 0, .int .i64 0, .slice none 0 0, .int .i64 0, .string (ByteArray.mk #[]), .slice none 0 0, .int .i64 0, .int .i64 0, .slice none 0 0, .slice p0 p1 p2, .int .i64 0]
@[reducible] def kc101 : List Value := [.int .i64 0, .int .i64 0, .int .i64 0, .int .i64 0, .int .i64 0, .int .i64 0, .int .i64 0, .int .i64 0, .int .i64 0, .int .i64 0, .int .i64 0, .int .i64 0, .slice none 0 0, .slice none 0 0, .slice none 0 0, .int .i64 0, .int .i64 0, .int .i64 0, .int .i64 0, .int .i64 0, .int .i64 0, .int .i64 0, .int .i64 0, .int .i64 0, .slice none 0 0, .slice none 0 0, .slice none 0 0, .int .i64 0, .int .i64 0, .bool false, .int .i64 0, .string (ByteArray.mk #[]), .int .i64 0, .int .i64 0, .string (ByteArray.mk #[]), .int .i64 0, .int .i64 0, .slice none 0 0, .int .i64 0, .string (ByteArray.mk #[]), .slice none 0 0, .int .i64 0, .int .i64 0, .slice none 0 0, .slice none 0 0, .int .i64 36]
@[reducible] def kc102 (p0 : Int) (p1 : Int) (p2 : Int) (p3 : Int) (p4 : Int) (p5 : Int) (p6 : Int) (p7 : Int) (p8 : Int) (p9 : Int) (p10 : Int) (p11 : Int) (p12 : Int) (p13 : Int) (p14 : Int) (p15 : Int) (p16 : Int) (p17 : Int) (p18 : Int) (p19 : Int) (p20 : Int) (p21 : Int) (p22 : Int) (p23 : Bool) (p24 : Int) (p25 : ByteArray) (p26 : Int) (p27 : Int) (p28 : ByteArray) (p29 : Int) (p30 : Int) (p31 : Int) (p32 : ByteArray) (p33 : Option Addr) (p34 : Nat) (p35 : Nat) (p36 : Int) (p37 : Int) (p38 : Int) (p39 : Int) (p40 : Int) (p41 : Bool) (p42 : Int) (p43 : ByteArray) (p44 : Int) (p45 : Int) (p46 : ByteArray) (p47 : Int) (p48 : Int) (p49 : Int) (p50 : Option Addr) (p51 : Nat) : List Value := [.int .i64 p0, .int .i64 p1, .int .i64 p2, .int .i64 p3, .int .i64 p4, .int .i64 p5, .int .i64 p6, .int .i64 p7, .int .i64 p8, .int .i64 p9, .int .i64 p10, .int .i64 p11, .slice none 0 0, .slice none 0 0, .slice none 0 0, .int .i64 p12, .int .i64 p13, .int .i64 p14, .int .i64 p15, .int .i64 p16, .int .i64 p17, .int .i64 p18, .int .i64 p19, .int .i64 p20, .slice none 0 0, .slice none 0 0, .slice none 0 0, .int .i64 p21, .int .i64 p22, .bool p23, .int .i64 p24, .string p25, .int .i64 p26, .int .i64 p27, .string p28, .int .i64 p29, .int .i64 p30, .slice none 0 0, .int .i64 p31, .string p32, .slice p33 p34 p35, .int .i64 p36, .int .i64 p37, .slice none 0 0, .slice none 0 0, .int .i64 p38, .bool false, .int .i64 p39, .int .i64 p40, .bool p41, .int .i64 p42, .string p43, .int .i64 p44, .int .i64 p45, .string p46, .int .i64 p47, .int .i64 p48, .slice none 0 0, .int .i64 p49, .slice p50 0 p51, .bool true]
@[reducible] def kc103 (p0 : ByteArray) : List Value := [.bool false, .int .i64 0, .int .i64 0, .int .i64 0, .slice none 0 0, .slice none 0 0, .slice none 0 0, .bool false, .string (ByteArray.mk #[]), .int .i64 0, .int .i64 0, .slice none 0 0, .bool false, .bool true, .string p0, .slice none 0 0]
@[reducible] def kc104 : List Value := [.int .i64 0, .int .i64 0, .int .i64 0, .int .i64 0, .int .i64 0, .int .i64 0, .int .i64 0, .int .i64 0, .int .i64 0, .int .i64 0, .int .i64 0, .int .i64 0, .slice none 0 0, .slice none 0 0, .slice none 0 0, .int .i64 0, .int .i64 0, .int .i64 0, .int .i64 0, .int .i64 0, .int .i64 0, .int .i64 0, .int .i64 0, .int .i64 0, .slice none 0 0, .slice none 0 0, .slice none 0 0, .int .i64 0, .int .i64 0, .bool false, .int .i64 0, .string (ByteArray.mk #[]), .int .i64 0, .int .i64 0, .string (ByteArray.mk #[]), .int .i64 0, .int .i64 0, .slice none 0 0, .int .i64 0, .string (ByteArray.mk #[]), .slice none 0 0, .int .i64 0, .int .i64 0, .slice none 0 0, .slice none 0 0, .int .i64 2]
@[reducible] def kc105 (p0 : Int) (p1 : Int) (p2 : Int) (p3 : Int) (p4 : Int) (p5 : Int) (p6 : Int) (p7 : Int) (p8 : Int) (p9 : Int) (p10 : Int) (p11 : Int) (p12 : Int) (p13 : Int) (p14 : Int) (p15 : Int) (p16 : Int) (p17 : Int) (p18 : Int) (p19 : Int) (p20 : Int) (p21 : Int) (p22 : Int) (p23 : Bool) (p24 : Int) (p25 : ByteArray) (p26 : Int) (p27 : Int) (p28 : ByteArray) (p29 : Int) (p30 : Int) (p31 : Int) (p32 : ByteArray) (p33 : Int) (p34 : Int) (p35 : Option Addr) (p36 : Nat) (p37 : Nat) (p38 : Int) : List Value := [.int .i64 p0, .int .i64 p1, .int .i64 p2, .int .i64 p3, .int .i64 p4, .int .i64 p5, .int .i64 p6, .int .i64 p7, .int .i64 p8, .int .i64 p9, .int .i64 p10, .int .i64 p11, .slice none 0 0, .slice none 0 0, .slice none 0 0, .int .i64 p12, .int .i64 p13, .int .i64 p14, .int .i64 p15, .int .i64 p16, .int .i64 p17, .int .i64 p18, .int .i64 p19, .int .i64 p20, .slice none 0 0, .slice none 0 0, .slice none 0 0, .int .i64 p21, .int .i64 p22, .bool p23, .int .i64 p24, .string p25, .int .i64 p26, .int .i64 p27, .string p28, .int .i64 p29, .int .i64 p30, .slice none 0 0, .int .i64 p31, .string p32, .slice none 0 0, .int .i64 p33, .int .i64 p34, .slice none 0 0, .slice p35 p36 p37, .int .i64 p38]
@[reducible] def kc106 (p0 : Int) (p1 : Int) (p2 : Int) (p3 : Int) (p4 : Int) (p5 : Int) (p6 : Int) (p7 : Int) (p8 : Int) (p9 : Int) (p10 : Int) (p11 : Int) (p12 : Int) (p13 : Int) (p14 : Int) (p15 : Int) (p16 : Int) (p17 : Int) (p18 : Int) (p19 : Int) (p20 : Int) (p21 : Int) (p22 : Bool) (p23 : Int) (p24 : ByteArray) (p25 : Int) (p26 : Int) (p27 : ByteArray) (p28 : Int) (p29 : Int) (p30 : Int) (p31 : ByteArray) (p32 : Int) (p33 : Int) (p34 : Option Addr) (p35 : Nat) (p36 : Nat) (p37 : Int) : List Value := [.int .i64 31, .int .i64 p0, .int .i64 p1, .int .i64 p2, .int .i64 p3, .int .i64 p4, .int .i64 p5, .int .i64 p6, .int .i64 p7, .int .i64 p8, .int .i64 p9, .int .i64 p10, .slice none 0 0, .slice none 0 0, .slice none 0 0, .int .i64 p11, .int .i64 p12, .int .i64 p13, .int .i64 p14, .int .i64 p15, .int .i64 p16, .int .i64 p17, .int .i64 p18, .int .i64 p19, .slice none 0 0, .slice none 0 0, .slice none 0 0, .int .i64 p20, .int .i64 p21, .bool p22, .int .i64 p23, .string p24, .int .i64 p25, .int .i64 p26, .string p27, .int .i64 p28, .int .i64 p29, .slice none 0 0, .int .i64 p30, .string p31, .slice none 0 0, .int .i64 p32, .int .i64 p33, .slice none 0 0, .slice p34 p35 p36, .int .i64 p37]
@[reducible] def kc107 (p0 : Int) (p1 : Int) (p2 : Int) (p3 : Int) (p4 : Int) (p5 : Int) (p6 : Int) (p7 : Int) (p8 : Int) (p9 : Int) (p10 : Int) (p11 : Int) (p12 : Int) (p13 : Int) (p14 : Int) (p15 : Int) (p16 : Int) (p17 : Int) (p18 : Int) (p19 : Bool) (p20 : Int) (p21 : ByteArray) (p22 : Int) (p23 : Int) (p24 : ByteArray) (p25 : Int) (p26 : Int) (p27 : Int) (p28 : ByteArray) (p29 : Int) (p30 : Int) (p31 : Option Addr) (p32 : Nat) (p33 : Nat) (p34 : Int) : List Value := [.int .i64 p0, .int .i64 2, .int .i64 0, .int .i64 2, .int .i64 0, .int .i64 p1, .int .i64 p2, .int .i64 p3, .int .i64 p4, .int .i64 p5, .int .i64 p6, .int .i64 p7, .slice none 0 0, .slice none 0 0, .slice none 0 0, .int .i64 p8, .int .i64 p9, .int .i64 p10, .int .i64 p11, .int .i64 p12, .int .i64 p13, .int .i64 p14, .int .i64 p15, .int .i64 p16, .slice none 0 0, .slice none 0 0, .slice none 0 0, .int .i64 p17, .int .i64 p18, .bool p19, .int .i64 p20, .string p21, .int .i64 p22, .int .i64 p23, .string p24, .int .i64 p25, .int .i64 p26, .slice none 0 0, .int .i64 p27, .string p28, .slice none 0 0, .int .i64 p29, .int .i64 p30, .slice none 0 0, .slice p31 p32 p33, .int .i64 p34]
@[reducible] def kc108 (p0 : Int) (p1 : Int) (p2 : Int) (p3 : Int) (p4 : Int) (p5 : Int) (p6 : Int) (p7 : Int) (p8 : Int) (p9 : Int) (p10 : Int) (p11 : Int) (p12 : Int) (p13 : Int) (p14 : Int) (p15 : Bool) (p16 : Int) (p17 : ByteArray) (p18 : Int) (p19 : Int) (p20 : ByteArray) (p21 : Int) (p22 : Int) (p23 : Int) (p24 : ByteArray) (p25 : Int) (p26 : Int) (p27 : Option Addr) (p28 : Nat) (p29 : Nat) (p30 : Int) : List Value := [.int .i64 p0, .int .i64 2, .int .i64 0, .int .i64 2, .int .i64 0, .int .i64 9, .int .i64 3, .int .i64 1, .int .i64 0, .int .i64 p1, .int .i64 p2, .int .i64 p3, .slice none 0 0, .slice none 0 0, .slice none 0 0, .int .i64 p4, .int .i64 p5, .int .i64 p6, .int .i64 p7, .int .i64 p8, .int .i64 p9, .int .i64 p10, .int .i64 p11, .int .i64 p12, .slice none 0 0, .slice none 0 0, .slice none 0 0, .int .i64 p13, .int .i64 p14, .bool p15, .int .i64 p16, .string p17, .int .i64 p18, .int .i64 p19, .string p20, .int .i64 p21, .int .i64 p22, .slice none 0 0, .int .i64 p23, .string p24, .slice none 0 0, .int .i64 p25, .int .i64 p26, .slice none 0 0, .slice p27 p28 p29, .int .i64 p30]
@[reducible] def kc109 (p0 : Int) (p1 : Int) (p2 : Int) (p3 : Int) (p4 : Int) (p5 : Int) (p6 : Int) (p7 : Int) (p8 : Int) (p9 : Int) (p10 : Int) (p11 : Int) (p12 : Int) (p13 : Int) (p14 : Bool) (p15 : Int) (p16 : ByteArray) (p17 : Int) (p18 : Int) (p19 : ByteArray) (p20 : Int) (p21 : Int) (p22 : Int) (p23 : ByteArray) (p24 : Int) (p25 : Int) (p26 : Option Addr) (p27 : Nat) (p28 : Nat) (p29 : Int) : List Value := [.int .i64 31, .int .i64 2, .int .i64 0, .int .i64 2, .int .i64 0, .int .i64 9, .int .i64 3, .int .i64 1, .int .i64 0, .int .i64 p0, .int .i64 p1, .int .i64 p2, .slice none 0 0, .slice none 0 0, .slice none 0 0, .int .i64 p3, .int .i64 p4, .int .i64 p5, .int .i64 p6, .int .i64 p7, .int .i64 p8, .int .i64 p9, .int .i64 p10, .int .i64 p11, .slice none 0 0, .slice none 0 0, .slice none 0 0, .int .i64 p12, .int .i64 p13, .bool p14, .int .i64 p15, .string p16, .int .i64 p17, .int .i64 p18, .string p19, .int .i64 p20, .int .i64 p21, .slice none 0 0, .int .i64 p22, .string p23, .slice none 0 0, .int .i64 p24, .int .i64 p25, .slice none 0 0, .slice p26 p27 p28, .int .i64 p29]
@[reducible] def kc110 (p0 : Int) (p1 : Int) (p2 : Int) (p3 : Int) (p4 : Int) (p5 : Int) (p6 : Int) (p7 : Int) (p8 : Int) (p9 : Int) (p10 : Int) (p11 : Int) (p12 : Int) (p13 : Int) (p14 : Int) (p15 : Int) (p16 : Bool) (p17 : Int) (p18 : ByteArray) (p19 : Int) (p20 : Int) (p21 : ByteArray) (p22 : Int) (p23 : Int) (p24 : Int) (p25 : ByteArray) (p26 : Int) (p27 : Int) (p28 : Option Addr) (p29 : Nat) (p30 : Nat) (p31 : Int) : List Value := [.int .i64 31, .int .i64 2, .int .i64 0, .int .i64 p0, .int .i64 p1, .int .i64 9, .int .i64 3, .int .i64 1, .int .i64 0, .int .i64 p2, .int .i64 p3, .int .i64 p4, .slice none 0 0, .slice none 0 0, .slice none 0 0, .int .i64 p5, .int .i64 p6, .int .i64 p7, .int .i64 p8, .int .i64 p9, .int .i64 p10, .int .i64 p11, .int .i64 p12, .int .i64 p13, .slice none 0 0, .slice none 0 0, .slice none 0 0, .int .i64 p14, .int .i64 p15, .bool p16, .int .i64 p17, .string p18, .int .i64 p19, .int .i64 p20, .string p21, .int .i64 p22, .int .i64 p23, .slice none 0 0, .int .i64 p24, .string p25, .slice none 0 0, .int .i64 p26, .int .i64 p27, .slice none 0 0, .slice p28 p29 p30, .int .i64 p31]
@[reducible] def kc111 (p0 : Int) (p1 : Int) (p2 : Int) (p3 : Int) (p4 : Option Addr) (p5 : Nat) (p6 : Nat) : List Value := [.int .i64 31, .int .i64 2, .int .i64 0, .int .i64 p0, .int .i64 p1, .int .i64 9, .int .i64 3, .int .i64 1, .int .i64 0, .int .i64 p2, .int .i64 p3, .int .i64 0, .slice none 0 0, .slice none 0 0, .slice none 0 0, .int .i64 0, .int .i64 0, .int .i64 0, .int .i64 0, .int .i64 0, .int .i64 0, .int .i64 0, .int .i64 0, .int .i64 0, .slice none 0 0, .slice none 0 0, .slice none 0 0, .int .i64 0, .int .i64 0, .bool false, .int .i64 0, .string (ByteArray.mk #[]), .int .i64 0, .int .i64 0, .string (ByteArray.mk #[]), .int .i64 0, .int .i64 0, .slice none 0 0, .int .i64 0, .string (ByteArray.mk #[]), .slice none 0 0, .int .i64 0, .int .i64 0, .slice none 0 0, .slice p4 p5 p6, .int .i64 0]
@[reducible] def kc112 (p0 : Int) : List Value := [.int .i64 35, .int .i64 2, .int .i64 1, .int .i64 2, .int .i64 0, .int .i64 0, .int .i64 3, .int .i64 1, .int .i64 0, .int .i64 0, .int .i64 p0, .int .i64 0, .slice none 0 0, .slice none 0 0, .slice none 0 0, .int .i64 0, .int .i64 0, .int .i64 0, .int .i64 0, .int .i64 0, .int .i64 0, .int .i64 0, .int .i64 0, .int .i64 0, .slice none 0 0, .slice none 0 0, .slice none 0 0, .int .i64 0, .int .i64 0, .bool false, .int .i64 0, .string (ByteArray.mk #[]), .int .i64 0, .int .i64 0, .string (ByteArray.mk #[]), .int .i64 0, .int .i64 0, .slice none 0 0, .int .i64 0, .string (ByteArray.mk #[]), .slice none 0 0, .int .i64 0, .int .i64 0, .slice none 0 0, .slice none 0 0, .int .i64 0]
@[reducible] def kc115 (p0 : Int) (p1 : Int) (p2 : Int) (p3 : Int) (p4 : Int) (p5 : Int) (p6 : Int) (p7 : Int) (p8 : Int) (p9 : Int) (p10 : Int) (p11 : Int) (p12 : Int) (p13 : Int) (p14 : Int) (p15 : Int) (p16 : Int) (p17 : Int) (p18 : Int) (p19 : Int) (p20 : Int) (p21 : Int) (p22 : Int) (p23 : Bool) (p24 : Int) (p25 : ByteArray) (p26 : Int) (p27 : Int) (p28 : ByteArray) (p29 : Int) (p30 : Int) (p31 : Int) (p32 : ByteArray) (p33 : Option Addr) (p34 : Nat) (p35 : Nat) (p36 : Int) (p37 : Int) (p38 : Int) (p39 : Int) (p40 : Option Addr) (p41 : Nat) : List Value := [.int .i64 p0, .int .i64 p1, .int .i64 p2, .int .i64 p3, .int .i64 p4, .int .i64 p5, .int .i64 p6, .int .i64 p7, .int .i64 p8, .int .i64 p9, .int .i64 p10, .int .i64 p11, .slice none 0 0, .slice none 0 0, .slice none 0 0, .int .i64 p12, .int .i64 p13, .int .i64 p14, .int .i64 p15, .int .i64 p16, .int .i64 p17, .int .i64 p18, .int .i64 p19, .int .i64 p20, .slice none 0 0, .slice none 0 0, .slice none 0 0, .int .i64 p21, .int .i64 p22, .bool p23, .int .i64 p24, .string p25, .int .i64 p26, .int .i64 p27, .string p28, .int .i64 p29, .int .i64 p30, .slice none 0 0, .int .i64 p31, .string p32, .slice p33 p34 p35, .int .i64 p36, .int .i64 p37, .slice none 0 0, .slice none 0 0, .int .i64 p38, .bool false, .int .i64 0, .int .i64 0, .bool false, .int .i64 0, .string (ByteArray.mk #[]), .int .i64 0, .int .i64 0, .string (ByteArray.mk #[]), .int .i64 0, .int .i64 0, .slice none 0 0, .int .i64 p39, .slice p40 0 p41, .bool true]
@[reducible] def kc116 (p0 : Int) (p1 : Int) (p2 : Int) (p3 : Int) : List Value := [.int .i64 31, .int .i64 2, .int .i64 0, .int .i64 p0, .int .i64 p1, .int .i64 9, .int .i64 3, .int .i64 1, .int .i64 0, .int .i64 p2, .int .i64 p3, .int .i64 0, .slice none 0 0, .slice none 0 0, .slice none 0 0, .int .i64 0, .int .i64 0, .int .i64 0, .int .i64 0, .int .i64 0, .int .i64 0, .int .i64 0, .int .i64 0, .int .i64 0, .slice none 0 0, .slice none 0 0, .slice none 0 0, .int .i64 0, .int .i64 0, .bool false, .int .i64 0, .string (ByteArray.mk #[]), .int .i64 0, .int .i64 0, .string (ByteArray.mk #[]), .int .i64 0, .int .i64 0, .slice none 0 0, .int .i64 0, .string (ByteArray.mk #[]), .slice none 0 0, .int .i64 0, .int .i64 0, .slice none 0 0, .slice none 0 0, .int .i64 0]
@[reducible] def kc117 (p0 : Option Addr) : List Value := [.bool false, .int .i64 0, .int .i64 0, .int .i64 0, .slice none 0 0, .slice none 0 0, .slice none 0 0, .bool false, .string (ByteArray.mk #[]), .int .i64 0, .int .i64 0, .slice none 0 0, .bool false, .bool false, .string (ByteArray.mk #[]), .slice p0 1 1]
@[reducible] def kc118 (p0 : Int) (p1 : Int) (p2 : ByteArray) (p3 : Option Addr) (p4 : Nat) (p5 : Nat) (p6 : Int) (p7 : Int) : List Value := [.int .i64 30, .int .i64 3, .int .i64 0, .int .i64 2, .int .i64 0, .int .i64 0, .int .i64 0, .int .i64 1, .int .i64 0, .int .i64 5, .int .i64 p0, .int .i64 0, .slice none 0 0, .slice none 0 0, .slice none 0 0, .int .i64 0, .int .i64 0, .int .i64 0, .int .i64 0, .int .i64 0, .int .i64 0, .int .i64 0, .int .i64 0, .int .i64 0, .slice none 0 0, .slice none 0 0, .slice none 0 0, .int .i64 0, .int .i64 0, .bool false, .int .i64 0, .string (ByteArray.mk #[]), .int .i64 0, .int .i64 0, .string (ByteArray.mk #[]), .int .i64 0, .int .i64 0, .slice none 0 0, .int .i64 p1, .string p2, .slice p3 p4 p5, .int .i64 p6, .int .i64 p7, .slice none 0 0, .slice none 0 0, .int .i64 0]

structure R___primary_Machine__again where
  a0 : ByteArray
  a1 : Int
  a2 : Int

structure R___primary_Machine__stored where
  a0 : Int
  a1 : Int
  a2 : Int
  a3 : List S_api_Entry
  a4 : List S_api_Last
  a5 : List S_api_Item
  a6 : List UInt8

structure R___primary_Machine__stored_2 where
  a0 : Int
  a1 : Int
  a2 : Int
  a3 : List S_api_Entry
  a4 : List S_api_Last
  a5 : List S_api_Item
  a6 : Bool
  a7 : ByteArray
  a8 : Int
  a9 : Int
  a10 : Bool
  a11 : ByteArray

structure R___primary_Machine__write where
  t : Nat
  a0 : ByteArray
  a1 : Int
  a2 : Int
  a3 : Int
  c0 : Int
  c1 : Int
  c2 : Int
  c3 : List S_api_Entry
  c4 : List S_api_Last
  c5 : List S_api_Item
  c6 : Int
  c7 : Int
  c8 : List UInt8
  c9 : Bool
  c10 : Int
  c11 : List UInt8
  c12 : Int
  c13 : Int
  c14 : Int
  c15 : List S_api_Entry
  c16 : List S_api_Last
  c17 : List S_api_Item
  c18 : List UInt8
  d0 : Int
  d1 : Int
  d2 : Int
  d3 : List S_api_Entry
  d4 : List S_api_Last
  d5 : List S_api_Item
  d6 : Bool
  d7 : ByteArray
  d8 : Int
  d9 : Int
  d10 : Bool
  d11 : ByteArray
  d12 : Int
  d13 : Int
  d14 : Bool
  d15 : Int
  d16 : Int
  d17 : Int
  d18 : Int
  d19 : List S_api_Entry
  d20 : List S_api_Last
  d21 : List S_api_Item

structure R___primary_Machine__begin where
  t : Nat
  a0 : ByteArray
  a1 : Int
  a2 : Int
  a3 : Int
  c0 : Int
  c1 : Int
  c2 : Int
  c3 : List S_api_Entry
  c4 : List S_api_Last
  c5 : List S_api_Item
  c6 : Int
  c7 : Int
  c8 : List UInt8
  c9 : Bool
  c10 : Int
  c11 : List UInt8
  c12 : Int
  c13 : Int
  c14 : Int
  c15 : List S_api_Entry
  c16 : List S_api_Last
  c17 : List S_api_Item
  c18 : List UInt8
  d0 : Int
  d1 : Int
  d2 : Int
  d3 : List S_api_Entry
  d4 : List S_api_Last
  d5 : List S_api_Item
  d6 : Bool
  d7 : ByteArray
  d8 : Int
  d9 : Int
  d10 : Bool
  d11 : ByteArray
  d12 : Int
  d13 : Int
  d14 : Bool
  d15 : Int
  d16 : Int
  d17 : Int
  d18 : Int
  d19 : List S_api_Entry
  d20 : List S_api_Last
  d21 : List S_api_Item
  e0 : Int

structure R___primary_Machine__request where
  t : Nat
  a0 : ByteArray
  a1 : Int
  a2 : Int
  a3 : Int
  c0 : Int
  c1 : Int
  c2 : Int
  c3 : List S_api_Entry
  c4 : List S_api_Last
  c5 : List S_api_Item
  c6 : Int
  c7 : Int
  c8 : List UInt8
  c9 : Bool
  c10 : Int
  c11 : List UInt8
  c12 : Int
  c13 : Int
  c14 : Int
  c15 : List S_api_Entry
  c16 : List S_api_Last
  c17 : List S_api_Item
  c18 : List UInt8
  c19 : List UInt8
  d0 : Int
  d1 : Int
  d2 : Int
  d3 : List S_api_Entry
  d4 : List S_api_Last
  d5 : List S_api_Item
  d6 : Bool
  d7 : ByteArray
  d8 : Int
  d9 : Int
  d10 : Bool
  d11 : ByteArray
  d12 : Int
  d13 : Int
  d14 : Bool
  d15 : Int
  d16 : Int
  d17 : Int
  d18 : Int
  d19 : List S_api_Entry
  d20 : List S_api_Last
  d21 : List S_api_Item
  d22 : List UInt8
  e0 : Int
  e1 : List UInt8

structure R___primary_Machine__Step where
  t : Nat
  a0 : ByteArray
  a1 : Int
  a2 : Int
  a3 : Int
  c0 : Int
  c1 : Int
  c2 : Int
  c3 : List S_api_Entry
  c4 : List S_api_Last
  c5 : List S_api_Item
  c6 : Int
  c7 : Int
  c8 : List UInt8
  c9 : Bool
  c10 : Int
  c11 : List UInt8
  c12 : Int
  c13 : Int
  c14 : Int
  c15 : List S_api_Entry
  c16 : List S_api_Last
  c17 : List S_api_Item
  c18 : List UInt8
  c19 : List UInt8
  d0 : Int
  d1 : Int
  d2 : Int
  d3 : List S_api_Entry
  d4 : List S_api_Last
  d5 : List S_api_Item
  d6 : Bool
  d7 : ByteArray
  d8 : Int
  d9 : Int
  d10 : Bool
  d11 : ByteArray
  d12 : Int
  d13 : Int
  d14 : Bool
  d15 : Int
  d16 : Int
  d17 : Int
  d18 : Int
  d19 : List S_api_Entry
  d20 : List S_api_Last
  d21 : List S_api_Item
  d22 : List UInt8
  e0 : Int
  e1 : List UInt8

structure R___primary_Machine__done_4 where
  a0 : ByteArray
  a1 : Int
  a2 : Int

structure R___primary_Machine__acked where
  a0 : ByteArray
  a1 : Int
  a2 : Int

structure R___primary_Machine__Step_2 where
  a0 : ByteArray
  a1 : Int
  a2 : Int

structure R___primary_Machine__done_5 where
  a0 : ByteArray
  a1 : Int
  a2 : Int

structure R___primary_Machine__acked_2 where
  a0 : ByteArray
  a1 : Int
  a2 : Int

structure R___primary_Machine__Step_3 where
  a0 : ByteArray
  a1 : Int
  a2 : Int

structure R___primary_Machine__done_6 where
  t : Nat
  a0 : Int
  b0 : List ByteArray

structure R___primary_Machine__acked_3 where
  t : Nat
  a0 : Int
  b0 : List ByteArray

structure R___primary_Machine__Step_4 where
  t : Nat
  a0 : Int
  b0 : List ByteArray

structure R___primary_Machine__State where
  a0 : Int
  a1 : Int
  a2 : Int
  a3 : List S_api_Entry
  a4 : List S_api_Last
  a5 : List S_api_Item

def m_slices_Index___int_int_ (F : Nat) : Option (Unit) :=
  some ()

def m_slices_Contains___int_int_ (F : Nat) : Option (Unit) :=
  (m_slices_Index___int_int_ F).bind (fun y3 => some ())

def m_pglog_below (F : Nat) : Option (Unit) :=
  some ()

def m_pglog_rising_api_Item_string_ (F : Nat) : Option (Unit) :=
  some ()

def m_pglog_rising_api_Last_int_ (F : Nat) : Option (Unit) :=
  some ()

def m_pglog_Check (F : Nat) : Option (Unit) :=
  (m_pglog_below F).bind (fun y3 => (m_pglog_rising_api_Item_string_ F).bind (fun y9 => (m_pglog_rising_api_Last_int_ F).bind (fun a => some ())))

def m_pglog_Copy (F : Nat) : Option (Unit) :=
  some ()

def m_primary_New (F : Nat) : Option (Unit) :=
  (m_slices_Contains___int_int_ F).bind (fun y3 => (m_pglog_Check F).bind (fun y5 => (m_pglog_Copy F).bind (fun a => some ())))

def m_slices_IndexFunc___api_Msg_api_Msg_ (F : Nat) (a1c0_0 a1c0_1 a1c0_2 a1c0_3 a1c0_4 a1c0_5 a1c0_6 a1c0_7 a1c0_8 a1c0_9 a1c0_10 a1c0_11 a1c0_15 a1c0_16 a1c0_17 a1c0_18 a1c0_19 a1c0_20 a1c0_21 a1c0_22 a1c0_23 a1c0_27 a1c0_28 : Int) (a1c0_29 : Bool) (a1c0_30 : Int) (a1c0_31 : ByteArray) (a1c0_32 a1c0_33 : Int) (a1c0_34 : ByteArray) (a1c0_35 a1c0_36 a1c0_38 : Int) (a1c0_39 : ByteArray) (a1c0_40 : List UInt8) (a1c0_41 a1c0_42 a1c0_45 : Int) : Option (Unit) :=
  some ()

def m_slices_ContainsFunc___api_Msg_api_Msg_ (F : Nat) (a1c0_0 a1c0_1 a1c0_2 a1c0_3 a1c0_4 a1c0_5 a1c0_6 a1c0_7 a1c0_8 a1c0_9 a1c0_10 a1c0_11 a1c0_15 a1c0_16 a1c0_17 a1c0_18 a1c0_19 a1c0_20 a1c0_21 a1c0_22 a1c0_23 a1c0_27 a1c0_28 : Int) (a1c0_29 : Bool) (a1c0_30 : Int) (a1c0_31 : ByteArray) (a1c0_32 a1c0_33 : Int) (a1c0_34 : ByteArray) (a1c0_35 a1c0_36 a1c0_38 : Int) (a1c0_39 : ByteArray) (a1c0_40 : List UInt8) (a1c0_41 a1c0_42 a1c0_45 : Int) : Option (Unit) :=
  (m_slices_IndexFunc___api_Msg_api_Msg_ F a1c0_0 a1c0_1 a1c0_2 a1c0_3 a1c0_4 a1c0_5 a1c0_6 a1c0_7 a1c0_8 a1c0_9 a1c0_10 a1c0_11 a1c0_15 a1c0_16 a1c0_17 a1c0_18 a1c0_19 a1c0_20 a1c0_21 a1c0_22 a1c0_23 a1c0_27 a1c0_28 a1c0_29 a1c0_30 a1c0_31 a1c0_32 a1c0_33 a1c0_34 a1c0_35 a1c0_36 a1c0_38 a1c0_39 a1c0_40 a1c0_41 a1c0_42 a1c0_45).bind (fun y3 => some ())

def m_slices_Clone___byte_byte_ (F : Nat) (a0 : List UInt8) : Option (List UInt8) :=
  grd (App (([] : List UInt8).length + a0.length) 1) (some (([] : List UInt8) ++ a0))

def m_pglog_Seen (F : Nat) (g : Int) (e : S_api_Version) (h : List S_api_Entry) (a : List S_api_Last) (d : List S_api_Item) (a1 a2 : Int) : Option (S_api_Last × Int) :=
  grd (Len a.length) (loopL (fun (f : Unit → Option (S_api_Last × Int)) (c : Nat) (b : S_api_Last) (_ : Unit) => (bif b.Client != a1 then f () else (bif a2 == b.Number then some (b, 1) else (bif decide (a2 < b.Number) then some (b, 2) else some ((S_api_Last.mk 0 0 0 (S_api_Version.mk 0 0)), 0))))) (fun (c : Nat) (_ : Unit) => some ((S_api_Last.mk 0 0 0 (S_api_Version.mk 0 0)), 0)) a 0 ())

def m___primary_Machine__to (F : Nat) (A B C D E G H I J K a b c d e f g h i j k l m : Int) (n : Bool) (o : Int) (p : ByteArray) (q r : Int) (s : ByteArray) (t u v : Int) (w : ByteArray) (x y z : Int) : Option (Unit) :=
  some ()

def m___primary_Machine__answer (F : Nat) (al am an ao ap aq ar au av A a K L M N O P Q R S T U V : Int) (W : Bool) (X : Int) (Y : ByteArray) (Z aa : Int) (ab : ByteArray) (ac ad ae : Int) (af : ByteArray) (ag : List UInt8) (ah ai aj aw B C D E G H I J ax ak b c d e f g h i j k l m : Int) (n : Bool) (o : Int) (p : ByteArray) (q r : Int) (s : ByteArray) (t u v : Int) (w : ByteArray) (x y z : Int) : Option (Unit) :=
  (m___primary_Machine__to F 31 B C D E G H I J A a b c d e f g h i j k l m n o p q r s t u v w x y z).bind (fun y4 => some ())

def m___primary_Machine__again (F : Nat) (G H I J K L M N O P f g h i j k l m n o p q r : Int) (s : Bool) (t : Int) (u : ByteArray) (v w : Int) (x : ByteArray) (y z A : Int) (d : ByteArray) (B : List UInt8) (C D E T U e Q R : Int) : Option (R___primary_Machine__again) :=
  jn (fun (S : ByteArray × Int × Int) => match S with | (a, b, c) => (m___primary_Machine__answer F G H I J K L M N O P f g h i j k l m n o p q r s t u v w x y z A d B C D E 0 0 0 0 0 0 0 0 0 0 0 0 0 0 0 0 0 0 0 0 0 0 0 false 0 (ByteArray.mk #[]) 0 0 a b c 0 (ByteArray.mk #[]) 0 0 e).bind (fun V => some (R___primary_Machine__again.mk a b c))) (fun (J6 : ByteArray × Int × Int → Option (R___primary_Machine__again)) => (bif e == 0 then J6 (d, Q, R) else J6 ((ByteArray.mk #[]), 0, 0)))

def m_pglog_Find (F : Nat) (g : Int) (d : S_api_Version) (h : List S_api_Entry) (c : List S_api_Last) (a : List S_api_Item) (a1 : ByteArray) : Option (S_api_Item × Bool) :=
  grd (Len a.length) (loopL (fun (e : Unit → Option (S_api_Item × Bool)) (b : Nat) (f : S_api_Item) (_ : Unit) => (bif f.Name.toList == a1.toList then some (f, true) else e ())) (fun (b : Nat) (_ : Unit) => some ((S_api_Item.mk (ByteArray.mk #[]) (S_api_Version.mk 0 0) 0), false)) a 0 ())

def m_place_Good (F : Nat) (a0 : ByteArray) : Option (Bool) :=
  grd ((a0.size : Int) ≤ 9223372036854775807) (loopC (fun (c : Unit → Option (Bool)) (a : Nat) (_ : Unit) => grd (a < a0.size) (jn (fun (b : Bool) => (bif b then some false else c ())) (fun (d : Bool → Option (Bool)) => (bif decide ((((a0.data.getD a 0).toNat : Nat) : Int) < 33) then d (decide ((((a0.data.getD a 0).toNat : Nat) : Int) < 33)) else d (decide ((((a0.data.getD a 0).toNat : Nat) : Int) > 126)))))) (fun (a : Nat) (_ : Unit) => (bif !(a0.toList == (ByteArray.mk #[]).toList) then some (decide ((a0.size : Int) ≤ 64)) else some false)) (Int.toNat ((a0.size : Int) - (0 : Int))) 0 ())

def m_primary_Verdict (F : Nat) (h : Int) (f : S_api_Version) (i : List S_api_Entry) (e : List S_api_Last) (b : List S_api_Item) (a : Int) (c : ByteArray) (g : List UInt8) (d : S_api_Version) : Option (Int) :=
  (m_pglog_Find F h f i e b c).bind (fun y3 => jn (fun (o : Bool) => jn (fun (j : Bool) => (bif j then (m_place_Good F c).bind (fun s => (bif !s then some 36 else (bif decide ((g.length : Int) > 4096) then some 27 else jn (fun (k : Bool) => (bif k then some 2 else jn (fun (l : Bool) => (bif l then some 126 else jn (fun (m : Bool) => (bif m then some 28 else some 0)) (fun (p : Bool → Option (Int)) => (bif a != 3 then p o else p false)))) (fun (q : Bool → Option (Int)) => (bif a == 4 then q (!(S_api_Version.beq y3.1.Version d)) else q false)))) (fun (r : Bool → Option (Int)) => (bif a == 3 then r (!y3.2) else r false))))) else some 22)) (fun (n : Bool → Option (Int)) => (bif a == 2 then n (a == 2) else (bif a == 3 then n (a == 3) else n (a == 4))))) (fun (J7 : Bool → Option (Int)) => (bif !y3.2 then J7 (decide ((b.length : Int) ≥ 32)) else J7 false)))

def m_pglog_Head (F : Nat) (e : Int) (b : S_api_Version) (a : List S_api_Entry) (c : List S_api_Last) (d : List S_api_Item) : Option (S_api_Version) :=
  (bif decide ((a.length : Int) > 0) then grd (I64 ((a.length : Int) - 1)) (grd (Ix ((a.length : Int) - 1) a.length) (some ((a.getD (Int.toNat ((a.length : Int) - 1)) dS_api_Entry).Version))) else some b)

def m_primary_Next (F : Nat) (d : Int) (c : S_api_Version) (e : List S_api_Entry) (a : List S_api_Last) (b : List S_api_Item) (a1 : Int) : Option (S_api_Version) :=
  (m_pglog_Head F d c e a b).bind (fun y3 => grd (I64 (y3.N + 1)) (some (S_api_Version.mk a1 (y3.N + 1))))

def m_slices_Clone___int_int_ (F : Nat) : Option (Unit) :=
  some ()

def m_digest_New (F : Nat) : Option (S_digest_Engine) :=
  some (S_digest_Engine.mk (S_sync_Once.mk (S_sync_noCopy.mk) (S_atomic_Bool.mk (S_atomic_noCopy.mk) 0) (S_sync_Mutex'.mk (S_sync_noCopy.mk) (S_sync_Mutex.mk 0 0))) (List.replicate 256 0) (S_atomic_Int64.mk (S_atomic_noCopy.mk) (S_atomic_align64.mk) 0))

def m___digest_Engine__make (F : Nat) (a0 : S_digest_Engine) : Option (S_digest_Engine) :=
  grd ((256 : Int) ≤ 9223372036854775807) (loopC (fun (e : List Int → Option (S_digest_Engine)) (c : Nat) (a : List Int) => grd ((8 : Int) ≤ 9223372036854775807) (loopC (fun (d : Int → Option (S_digest_Engine)) (f : Nat) (b : Int) => (bif (iand .u32 b 1) == 1 then d (ixor .u32 (Int.fdiv b (2 ^ 1)) 2197175160) else d (Int.fdiv b (2 ^ 1)))) (fun (f : Nat) (b : Int) => grd (c < 256) (grd (c < a.length) (e (a.set c b)))) (Int.toNat (8 - (0 : Int))) 0 (IntKind.u32.wrap (c : Int)))) (fun (c : Nat) (a : List Int) => some (S_digest_Engine.mk a0.once a a0.calls)) (Int.toNat (256 - (0 : Int))) 0 a0.table)

/-- What sync.Once.Do makes of an engine's table. -/
def m_once (F : Nat) (d st se : Int) (L : List Int) (c : Int) : Option (List Int) :=
  grd (st = 0) (grd (L.length = 256) (bif d == 1 then some L else grd (d = 0) ((m___digest_Engine__make F (S_digest_Engine.mk (S_sync_Once.mk S_sync_noCopy.mk (S_atomic_Bool.mk S_atomic_noCopy.mk 0) (S_sync_Mutex'.mk S_sync_noCopy.mk (S_sync_Mutex.mk 1 se))) L (S_atomic_Int64.mk S_atomic_noCopy.mk S_atomic_align64.mk c))).bind (fun y => grd (y.once.done.v = 0 ∧ y.once.m.mu.state = 1 ∧ y.once.m.mu.sema = se ∧ y.calls.v = c ∧ y.table.length = 256) (some y.table)))))

def m___digest_Engine__Crc (F : Nat) (a0 : S_digest_Engine) (a1 : List UInt8) : Option (Int × S_digest_Engine) :=
  grd (a0.table.length = 256) ((m_once F a0.once.done.v a0.once.m.mu.state a0.once.m.mu.sema a0.table (IntKind.i64.wrap (a0.calls.v + 1))).bind (fun y7 => grd (Len a1.length) (loopL (fun (d : Int → Option (Int × S_digest_Engine)) (b : Nat) (c : UInt8) (a : Int) => grd (Ix (ixor .u8 (IntKind.u8.wrap a) (c.toNat : Int)) 256) (grd ((Int.toNat (ixor .u8 (IntKind.u8.wrap a) (c.toNat : Int))) < y7.length) ((some (ixor .u32 (Int.fdiv a (2 ^ 8)) (y7.getD (Int.toNat (ixor .u8 (IntKind.u8.wrap a) (c.toNat : Int))) 0))).bind (fun e => d e)))) (fun (b : Nat) (a : Int) => some ((ixor .u32 4294967295 a), (S_digest_Engine.mk (S_sync_Once.mk (S_sync_noCopy.mk) (S_atomic_Bool.mk (S_atomic_noCopy.mk) 1) (S_sync_Mutex'.mk (S_sync_noCopy.mk) (S_sync_Mutex.mk 0 a0.once.m.mu.sema))) y7 (S_atomic_Int64.mk (S_atomic_noCopy.mk) (S_atomic_align64.mk) (IntKind.i64.wrap (a0.calls.v + 1)))))) a1 0 4294967295)))

def m_cmp_isNaN_int_ (F : Nat) (a0 : Int) : Option (Bool) :=
  some (a0 != a0)

def m_cmp_Compare_int_ (F : Nat) (a0 a1 : Int) : Option (Int) :=
  (m_cmp_isNaN_int_ F a0).bind (fun y3 => (m_cmp_isNaN_int_ F a1).bind (fun y6 => (bif y3 then (bif y6 then some 0 else some (-1)) else (bif y6 then some 1 else (bif decide (a0 < a1) then some (-1) else (bif decide (a0 > a1) then some 1 else some 0))))))

def m_pglog_Cmp (F : Nat) (a0 a1 : S_api_Version) : Option (Int) :=
  (m_cmp_Compare_int_ F a0.Epoch a1.Epoch).bind (fun y3 => (bif y3 != 0 then some y3 else (m_cmp_Compare_int_ F a0.N a1.N).bind (fun y9 => some y9)))

def m_pglog_Copy_2 (F : Nat) (e : Int) (d : S_api_Version) (c : List S_api_Entry) (a : List S_api_Last) (b : List S_api_Item) : Option (Int × S_api_Version × List S_api_Entry × List S_api_Last × List S_api_Item) :=
  grd (App c.length 64) (grd (App a.length 40) (grd (App b.length 40) (some (e, d, c, a, b))))

def m_pglog_lastClient (F : Nat) (a0 : S_api_Last) : Option (Int) :=
  some a0.Client

def m_pglog_look_api_Last_int__1 (F : Nat) (a0 : S_api_Last) (a1 : Int) : Option (Int) :=
  (m_pglog_lastClient F a0).bind (fun y3 => (m_cmp_Compare_int_ F y3 a1).bind (fun y5 => some y5))

def m_slices_BinarySearchFunc___api_Last_api_Last_int_ (F : Nat) (a0 : List S_api_Last) (a1 : Int) : Option (Int × Bool) :=
  loopW (fun (c : Int × Int → Option (Int × Bool)) (d : Int × Int) => match d with | (a, b) => (bif decide (a < b) then grd (I64 (a + b)) (grd (Ix (IntKind.i64.wrap (Int.fdiv (IntKind.u64.wrap (a + b)) (2 ^ 1))) a0.length) ((m_pglog_look_api_Last_int__1 F (a0.getD (Int.toNat (IntKind.i64.wrap (Int.fdiv (IntKind.u64.wrap (a + b)) (2 ^ 1)))) dS_api_Last) a1).bind (fun e => (bif decide (e < 0) then grd (I64 ((IntKind.i64.wrap (Int.fdiv (IntKind.u64.wrap (a + b)) (2 ^ 1))) + 1)) (c (((IntKind.i64.wrap (Int.fdiv (IntKind.u64.wrap (a + b)) (2 ^ 1))) + 1), b)) else c (a, (IntKind.i64.wrap (Int.fdiv (IntKind.u64.wrap (a + b)) (2 ^ 1)))))))) else (bif decide (a < (a0.length : Int)) then grd (Ix a a0.length) ((m_pglog_look_api_Last_int__1 F (a0.getD (Int.toNat a) dS_api_Last) a1).bind (fun f => some (a, (f == 0)))) else some (a, false)))) F (0, (a0.length : Int))

def m_pglog_look_api_Last_int_ (F : Nat) (a0 : List S_api_Last) (a2 : Int) : Option (Int × Bool) :=
  (m_slices_BinarySearchFunc___api_Last_api_Last_int_ F a0 a2).bind (fun y3 => some (y3.1, y3.2))

def m_pglog_itemName (F : Nat) (a0 : S_api_Item) : Option (ByteArray) :=
  some a0.Name

def m_cmp_isNaN_string_ (F : Nat) (a0 : ByteArray) : Option (Bool) :=
  some (!(a0.toList == a0.toList))

def m_cmp_Compare_string_ (F : Nat) (a0 a1 : ByteArray) : Option (Int) :=
  (m_cmp_isNaN_string_ F a0).bind (fun y3 => (m_cmp_isNaN_string_ F a1).bind (fun y6 => (bif y3 then (bif y6 then some 0 else some (-1)) else (bif y6 then some 1 else (bif Op.bytesLess a0.toList a1.toList then some (-1) else (bif !(Op.bytesLess a0.toList a1.toList || a0.toList == a1.toList) then some 1 else some 0))))))

def m_pglog_look_api_Item_string__1 (F : Nat) (a0 : S_api_Item) (a1 : ByteArray) : Option (Int) :=
  (m_pglog_itemName F a0).bind (fun y3 => (m_cmp_Compare_string_ F y3 a1).bind (fun y5 => some y5))

def m_slices_BinarySearchFunc___api_Item_api_Item_string_ (F : Nat) (a0 : List S_api_Item) (a1 : ByteArray) : Option (Int × Bool) :=
  loopW (fun (c : Int × Int → Option (Int × Bool)) (d : Int × Int) => match d with | (a, b) => (bif decide (a < b) then grd (I64 (a + b)) (grd (Ix (IntKind.i64.wrap (Int.fdiv (IntKind.u64.wrap (a + b)) (2 ^ 1))) a0.length) ((m_pglog_look_api_Item_string__1 F (a0.getD (Int.toNat (IntKind.i64.wrap (Int.fdiv (IntKind.u64.wrap (a + b)) (2 ^ 1)))) dS_api_Item) a1).bind (fun e => (bif decide (e < 0) then grd (I64 ((IntKind.i64.wrap (Int.fdiv (IntKind.u64.wrap (a + b)) (2 ^ 1))) + 1)) (c (((IntKind.i64.wrap (Int.fdiv (IntKind.u64.wrap (a + b)) (2 ^ 1))) + 1), b)) else c (a, (IntKind.i64.wrap (Int.fdiv (IntKind.u64.wrap (a + b)) (2 ^ 1)))))))) else (bif decide (a < (a0.length : Int)) then grd (Ix a a0.length) ((m_pglog_look_api_Item_string__1 F (a0.getD (Int.toNat a) dS_api_Item) a1).bind (fun f => some (a, (f == 0)))) else some (a, false)))) F (0, (a0.length : Int))

def m_pglog_look_api_Item_string_ (F : Nat) (a0 : List S_api_Item) (a2 : ByteArray) : Option (Int × Bool) :=
  (m_slices_BinarySearchFunc___api_Item_api_Item_string_ F a0 a2).bind (fun y3 => some (y3.1, y3.2))

def m_slices_Delete___api_Item_api_Item_ (F : Nat) (a0 : List S_api_Item) (a1 a2 : Int) : Option (List S_api_Item) :=
  grd (Bd a2 a0.length) (grd (Bd a1 (Int.toNat a2)) ((bif a1 == a2 then some a0 else grd (Bd a1 a0.length) (grd (App ((Int.toNat a1) + (a0.length - (Int.toNat a2))) 40) (grd ((Int.toNat a1) ≤ (Int.toNat a2)) (grd ((a0.take (Int.toNat a1) ++ a0.drop (Int.toNat a2)).length ≤ a0.length) (some (a0.take (Int.toNat a1) ++ a0.drop (Int.toNat a2)))))))))

def m_pglog_Append (F : Nat) (f : Int) (d : S_api_Version) (g : List S_api_Entry) (c : List S_api_Last) (b : List S_api_Item) (a1 : S_api_Entry) (a2 : Int) : Option (Int × S_api_Version × List S_api_Entry × List S_api_Last × List S_api_Item × Int) :=
  (m_pglog_Find F f d g c b a1.Name).bind (fun y3 => jn (fun (l : Bool) => (bif l then some (0, (S_api_Version.mk 0 0), ([] : List S_api_Entry), ([] : List S_api_Last), ([] : List S_api_Item), 22) else (m_place_Good F a1.Name).bind (fun q => (bif !q then some (0, (S_api_Version.mk 0 0), ([] : List S_api_Entry), ([] : List S_api_Last), ([] : List S_api_Item), 36) else jn (fun (m : Bool) => (bif m then some (0, (S_api_Version.mk 0 0), ([] : List S_api_Entry), ([] : List S_api_Last), ([] : List S_api_Item), 28) else (m_pglog_Copy_2 F f d g c b).bind (fun a => grd (App (a.2.2.1.length + [a1].length) 64) ((m_pglog_look_api_Last_int_ F a.2.2.2.1 a1.Client).bind (fun i => jn (fun (h : List S_api_Last) => (bif a1.Errno != 0 then some (a.1, (S_api_Version.mk a.2.1.Epoch a.2.1.N), (a.2.2.1 ++ [a1]), h, a.2.2.2.2, 0) else (m_pglog_look_api_Item_string_ F a.2.2.2.2 a1.Name).bind (fun e => jn (fun (j : Bool) => (bif j then grd (I64 (e.1 + 1)) ((m_slices_Delete___api_Item_api_Item_ F a.2.2.2.2 e.1 (e.1 + 1)).bind (fun r => some (a.1, (S_api_Version.mk a.2.1.Epoch a.2.1.N), (a.2.2.1 ++ [a1]), h, r, 0))) else (bif a1.Remove then some (a.1, (S_api_Version.mk a.2.1.Epoch a.2.1.N), (a.2.2.1 ++ [a1]), h, a.2.2.2.2, 0) else (bif e.2 then grd (Ix e.1 a.2.2.2.2.length) (some (a.1, (S_api_Version.mk a.2.1.Epoch a.2.1.N), (a.2.2.1 ++ [a1]), h, (a.2.2.2.2.set (Int.toNat e.1) (S_api_Item.mk a1.Name (S_api_Version.mk a1.Version.Epoch a1.Version.N) a2)), 0)) else grd ([(S_api_Item.mk a1.Name (S_api_Version.mk a1.Version.Epoch a1.Version.N) a2)].length = 1) (grd (0 ≤ e.1) (grd (Int.toNat e.1 ≤ a.2.2.2.2.length) (grd (App (a.2.2.2.2.length + 1) 40) (some (a.1, (S_api_Version.mk a.2.1.Epoch a.2.1.N), (a.2.2.1 ++ [a1]), h, (a.2.2.2.2.take (Int.toNat e.1) ++ ([(S_api_Item.mk a1.Name (S_api_Version.mk a1.Version.Epoch a1.Version.N) a2)] ++ a.2.2.2.2.drop (Int.toNat e.1))), 0))))))))) (fun (o : Bool → Option (Int × S_api_Version × List S_api_Entry × List S_api_Last × List S_api_Item × Int)) => (bif a1.Remove then o e.2 else o false))))) (fun (p : List S_api_Last → Option (Int × S_api_Version × List S_api_Entry × List S_api_Last × List S_api_Item × Int)) => (bif i.2 then grd (Ix i.1 a.2.2.2.1.length) (p (a.2.2.2.1.set (Int.toNat i.1) (S_api_Last.mk a1.Client a1.Number a1.Errno a1.Version))) else grd ([(S_api_Last.mk a1.Client a1.Number a1.Errno a1.Version)].length = 1) (grd (0 ≤ i.1) (grd (Int.toNat i.1 ≤ a.2.2.2.1.length) (grd (App (a.2.2.2.1.length + 1) 40) (p (a.2.2.2.1.take (Int.toNat i.1) ++ ([(S_api_Last.mk a1.Client a1.Number a1.Errno a1.Version)] ++ a.2.2.2.1.drop (Int.toNat i.1)))))))))))))) (fun (k : Bool → Option (Int × S_api_Version × List S_api_Entry × List S_api_Last × List S_api_Item × Int)) => (bif a1.Errno == 0 then (bif !a1.Remove then (bif !y3.2 then k (decide ((b.length : Int) ≥ 32)) else k false) else k false) else k false)))))) (fun (n : Bool → Option (Int × S_api_Version × List S_api_Entry × List S_api_Last × List S_api_Item × Int)) => (m_pglog_Head F f d g c b).bind (fun y6 => (m_pglog_Cmp F a1.Version y6).bind (fun y8 => (bif decide (y8 ≤ 0) then n true else (bif decide (a1.Client < 0) then n true else n (decide (a1.Number < 0))))))))

def m_pglog_Trim (F : Nat) (d : Int) (c : S_api_Version) (e : List S_api_Entry) (a : List S_api_Last) (b : List S_api_Item) (a1 : Int) : Option (Int × S_api_Version × List S_api_Entry × List S_api_Last × List S_api_Item) :=
  (m_pglog_Copy_2 F d c e a b).bind (fun y3 => grd (I64 ((y3.2.2.1.length : Int) - (if 0 > a1 then 0 else a1))) ((bif decide (((y3.2.2.1.length : Int) - (if 0 > a1 then 0 else a1)) > 0) then grd (I64 (((y3.2.2.1.length : Int) - (if 0 > a1 then 0 else a1)) - 1)) (grd (Ix (((y3.2.2.1.length : Int) - (if 0 > a1 then 0 else a1)) - 1) y3.2.2.1.length) (grd (Bd ((y3.2.2.1.length : Int) - (if 0 > a1 then 0 else a1)) y3.2.2.1.length) (grd (App ((y3.2.2.1.drop (Int.toNat ((y3.2.2.1.length : Int) - (if 0 > a1 then 0 else a1)))).take (y3.2.2.1.length - (Int.toNat ((y3.2.2.1.length : Int) - (if 0 > a1 then 0 else a1))))).length 64) (some (y3.1, ((y3.2.2.1.getD (Int.toNat (((y3.2.2.1.length : Int) - (if 0 > a1 then 0 else a1)) - 1)) dS_api_Entry).Version), ((y3.2.2.1.drop (Int.toNat ((y3.2.2.1.length : Int) - (if 0 > a1 then 0 else a1)))).take (y3.2.2.1.length - (Int.toNat ((y3.2.2.1.length : Int) - (if 0 > a1 then 0 else a1))))), y3.2.2.2.1, y3.2.2.2.2))))) else some (y3.1, y3.2.1, y3.2.2.1, y3.2.2.2.1, y3.2.2.2.2))))

def m_primary_copied (F : Nat) (b : ByteArray) (c d : Int) (a : List UInt8) : Option (List UInt8) :=
  (m_slices_Clone___byte_byte_ F a).bind (fun y3 => some y3)

def m___primary_Machine__stored (F : Nat) (R S T : Int) (U : List S_api_Entry) (g : List S_api_Last) (h : List S_api_Item) (V W X Y Z aa ab ac ad ae i j k l m n o p q r s t u : Int) (v : Bool) (w : Int) (x : ByteArray) (y z : Int) (A : ByteArray) (B C D : Int) (E : ByteArray) (G : List UInt8) (H I J K L : Int) (a : Bool) (b : Int) (M : ByteArray) (O P : Int) (c : ByteArray) (d e : Int) (f : List UInt8) (Q af : Int) : Option (R___primary_Machine__stored) :=
  (m_pglog_Copy_2 F R (S_api_Version.mk S T) U g h).bind (fun y3 => grd ((b == 0) = true) (grd ((a) = false) ((m_primary_copied F c d e f).bind (fun ag => some (R___primary_Machine__stored.mk y3.1 y3.2.1.Epoch y3.2.1.N y3.2.2.1 y3.2.2.2.1 y3.2.2.2.2 ag)))))

def m___primary_Machine__to_2 (F : Nat) (B C D E G H I J K L a b c d e f g h i j k l m : Int) (n : Bool) (o : Int) (p : ByteArray) (q r : Int) (s : ByteArray) (t u : Int) (v : List UInt8) (w : Int) (x : ByteArray) (y z A : Int) : Option (Unit) :=
  some ()

def m___primary_Machine__ask (F : Nat) (d e : Int) (f : Bool) (g : Int) (h : ByteArray) (i j : Int) (a : ByteArray) (b c : Int) (k : List UInt8) (l : Int) : Option (List UInt8) :=
  (m_primary_copied F a b c k).bind (fun y5 => (m___primary_Machine__to_2 F 32 0 0 0 0 0 0 0 0 0 0 0 0 0 0 0 0 0 0 0 0 d e f g h i j a b c y5 0 (ByteArray.mk #[]) 0 0 0).bind (fun y9 => some y5))

def m___primary_Machine__done (F : Nat) (ai aj ak : Int) (al : List S_api_Entry) (ad : List S_api_Last) (ae : List S_api_Item) (T U V W X Y Z aa ab ac f g h i j k l m n o p q r : Int) (s : Bool) (t : Int) (u : ByteArray) (v w : Int) (x : ByteArray) (y z A : Int) (B : ByteArray) (C : List UInt8) (D E G H I : Int) (J : Bool) (K : Int) (L : ByteArray) (M N : Int) (O : ByteArray) (P Q : Int) (R : List UInt8) (S af am an ao : Int) (ap : List S_api_Entry) (aq : List S_api_Last) (ar : List S_api_Item) (au : ByteArray) (av ag : Int) (ah : List UInt8) (a : Bool) (b c d : Int) (e : List UInt8) : Option (Unit) :=
  some ()

def m_slices_Clone___byte_byte__2 (F : Nat) : Option (Unit) :=
  some ()

def m_primary_copied_2 (F : Nat) (a : ByteArray) (b c : Int) : Option (Unit) :=
  (m_slices_Clone___byte_byte__2 F).bind (fun y3 => some ())

def m___primary_Machine__stored_2 (F : Nat) (Q R S : Int) (T : List S_api_Entry) (g : List S_api_Last) (h : List S_api_Item) (U V W X Y Z aa ab ac ad i j k l m n o p q r s t u : Int) (v : Bool) (w : Int) (x : ByteArray) (y z : Int) (A : ByteArray) (B C D : Int) (E : ByteArray) (G : List UInt8) (H I J K L : Int) (d : Bool) (e : Int) (f : ByteArray) (M O : Int) (a : ByteArray) (b c P ae : Int) : Option (R___primary_Machine__stored_2) :=
  (m_pglog_Copy_2 F Q (S_api_Version.mk R S) T g h).bind (fun y3 => (bif e == 0 then (bif d then some (R___primary_Machine__stored_2.mk y3.1 y3.2.1.Epoch y3.2.1.N y3.2.2.1 y3.2.2.2.1 y3.2.2.2.2 false (ByteArray.mk #[]) 0 0 true f) else (m_primary_copied_2 F a b c).bind (fun af => some (R___primary_Machine__stored_2.mk y3.1 y3.2.1.Epoch y3.2.1.N y3.2.2.1 y3.2.2.2.1 y3.2.2.2.2 true a b c false (ByteArray.mk #[])))) else some (R___primary_Machine__stored_2.mk y3.1 y3.2.1.Epoch y3.2.1.N y3.2.2.1 y3.2.2.2.1 y3.2.2.2.2 false (ByteArray.mk #[]) 0 0 false (ByteArray.mk #[]))))

def m___primary_Machine__to_3 (F : Nat) (A B C D E G H I J K a b c d e f g h i j k l m : Int) (n : Bool) (o : Int) (p : ByteArray) (q r : Int) (s : ByteArray) (t u v : Int) (w : ByteArray) (x y z : Int) : Option (Unit) :=
  some ()

def m___primary_Machine__ask_2 (F : Nat) (d e : Int) (f : Bool) (g : Int) (h : ByteArray) (i j : Int) (a : ByteArray) (b c k : Int) : Option (Unit) :=
  (m_primary_copied_2 F a b c).bind (fun y5 => (m___primary_Machine__to_3 F 32 0 0 0 0 0 0 0 0 0 0 0 0 0 0 0 0 0 0 0 0 d e f g h i j a b c 0 (ByteArray.mk #[]) 0 0 0).bind (fun y7 => some ()))

def m___primary_Machine__done_2 (F : Nat) (ak al am : Int) (an : List S_api_Entry) (ae : List S_api_Last) (af : List S_api_Item) (U V W X Y Z aa ab ac ad h i j k l m n o p q r s t : Int) (u : Bool) (v : Int) (w : ByteArray) (x y : Int) (z : ByteArray) (A B C : Int) (D : ByteArray) (E : List UInt8) (G H I J K : Int) (L : Bool) (M : Int) (N : ByteArray) (O P : Int) (Q : ByteArray) (R S T ag ao ap aq : Int) (ar : List S_api_Entry) (au : List S_api_Last) (av : List S_api_Item) (aw : Bool) (ax : ByteArray) (ay ah : Int) (ai : Bool) (aj : ByteArray) (a b : Int) (c : Bool) (d : Int) (e : ByteArray) (f g : Int) : Option (Unit) :=
  some ()

def m___primary_Machine__write (F : Nat) (X Y Z : Int) (aa : List S_api_Entry) (U : List S_api_Last) (V : List S_api_Item) (W J K L M O P Q R S e c m n o p q r s t u v w x : Int) (y : Bool) (z : Int) (A : ByteArray) (B C : Int) (D : ByteArray) (E G a : Int) (b : ByteArray) (h : List UInt8) (j k H : Int) : Option (R___primary_Machine__write) :=
  (m_pglog_Seen F X (S_api_Version.mk Y Z) aa U V e c).bind (fun y3 => (bif y3.2 == 1 then (m___primary_Machine__again F J K L M O P Q R S e c m n o p q r s t u v w x y z A B C D E G a b h j k H y3.1.Client y3.1.Number y3.1.Errno y3.1.Version.Epoch y3.1.Version.N).bind (fun y9 => some (R___primary_Machine__write.mk 0 y9.a0 y9.a1 y9.a2 y3.1.Errno 0 0 0 [] [] [] 0 0 [] false 0 [] 0 0 0 [] [] [] [] 0 0 0 [] [] [] false (ByteArray.mk #[]) 0 0 false (ByteArray.mk #[]) 0 0 false 0 0 0 0 [] [] [])) else (bif y3.2 == 2 then some (R___primary_Machine__write.mk 1 (ByteArray.mk #[]) 0 0 0 0 0 0 [] [] [] 0 0 [] false 0 [] 0 0 0 [] [] [] [] 0 0 0 [] [] [] false (ByteArray.mk #[]) 0 0 false (ByteArray.mk #[]) 0 0 false 0 0 0 0 [] [] []) else (m_primary_Verdict F X (S_api_Version.mk Y Z) aa U V a b h (S_api_Version.mk j k)).bind (fun i => jn (fun (af : Bool) => (bif af then (m___primary_Machine__answer F J K L M O P Q R S e c m n o p q r s t u v w x y z A B C D E G a b h j k H 0 0 0 0 0 0 0 0 0 0 0 0 0 0 0 0 0 0 0 0 0 0 0 false 0 (ByteArray.mk #[]) 0 0 (ByteArray.mk #[]) 0 0 0 (ByteArray.mk #[]) 0 0 i).bind (fun aq => some (R___primary_Machine__write.mk 0 (ByteArray.mk #[]) 0 0 i 0 0 0 [] [] [] 0 0 [] false 0 [] 0 0 0 [] [] [] [] 0 0 0 [] [] [] false (ByteArray.mk #[]) 0 0 false (ByteArray.mk #[]) 0 0 false 0 0 0 0 [] [] [])) else (m_primary_Next F X (S_api_Version.mk Y Z) aa U V 3).bind (fun f => (m_slices_Clone___int_int_ F).bind (fun ar => jn (fun (ac : Bool) => (bif ac then (m_slices_Clone___byte_byte_ F h).bind (fun ad => (m_digest_New F).bind (fun ak => (m___digest_Engine__Crc F ak h).bind (fun al => (m_pglog_Append F X (S_api_Version.mk Y Z) aa U V (S_api_Entry.mk f (a == 3) i b e c) al.1).bind (fun ab => (bif ab.2.2.2.2.2 != 0 then (m___primary_Machine__answer F J K L M O P Q R S e c m n o p q r s t u v w x y z A B C D E G a b h j k H 0 0 0 0 0 0 0 0 0 0 0 0 0 0 0 0 0 0 0 0 0 0 0 false 0 (ByteArray.mk #[]) 0 0 (ByteArray.mk #[]) 0 0 0 (ByteArray.mk #[]) 0 0 ab.2.2.2.2.2).bind (fun au => some (R___primary_Machine__write.mk 0 (ByteArray.mk #[]) 0 0 ab.2.2.2.2.2 0 0 0 [] [] [] 0 0 [] false 0 [] 0 0 0 [] [] [] [] 0 0 0 [] [] [] false (ByteArray.mk #[]) 0 0 false (ByteArray.mk #[]) 0 0 false 0 0 0 0 [] [] [])) else (m_pglog_Trim F ab.1 ab.2.1 ab.2.2.1 ab.2.2.2.1 ab.2.2.2.2.1 32).bind (fun l => (m___primary_Machine__stored F l.1 l.2.1.Epoch l.2.1.N l.2.2.1 l.2.2.2.1 l.2.2.2.2 J K L M O P Q R S e c m n o p q r s t u v w x y z A B C D E G a b h j k H f.Epoch f.N (a == 3) i b e c b f.Epoch f.N ad 0 W).bind (fun I => (m___primary_Machine__ask F f.Epoch f.N (a == 3) i b e c b f.Epoch f.N ad 0).bind (fun ae => (m___primary_Machine__done F l.1 l.2.1.Epoch l.2.1.N l.2.2.1 l.2.2.2.1 l.2.2.2.2 J K L M O P Q R S e c m n o p q r s t u v w x y z A B C D E G a b h j k H f.Epoch f.N (a == 3) i b e c b f.Epoch f.N ad 0 W I.a0 I.a1 I.a2 I.a3 I.a4 I.a5 b f.Epoch f.N I.a6 (a == 3) i e c ae).bind (fun am => some (R___primary_Machine__write.mk 2 (ByteArray.mk #[]) 0 0 0 I.a0 I.a1 I.a2 I.a3 I.a4 I.a5 f.Epoch f.N I.a6 (a == 3) i ae l.1 l.2.1.Epoch l.2.1.N l.2.2.1 l.2.2.2.1 l.2.2.2.2 ad 0 0 0 [] [] [] false (ByteArray.mk #[]) 0 0 false (ByteArray.mk #[]) 0 0 false 0 0 0 0 [] [] [])))))))))) else (m_digest_New F).bind (fun ah => (m___digest_Engine__Crc F ah h).bind (fun ai => (m_pglog_Append F X (S_api_Version.mk Y Z) aa U V (S_api_Entry.mk f (a == 3) i b e c) ai.1).bind (fun T => (bif T.2.2.2.2.2 != 0 then (m___primary_Machine__answer F J K L M O P Q R S e c m n o p q r s t u v w x y z A B C D E G a b h j k H 0 0 0 0 0 0 0 0 0 0 0 0 0 0 0 0 0 0 0 0 0 0 0 false 0 (ByteArray.mk #[]) 0 0 (ByteArray.mk #[]) 0 0 0 (ByteArray.mk #[]) 0 0 T.2.2.2.2.2).bind (fun an => some (R___primary_Machine__write.mk 0 (ByteArray.mk #[]) 0 0 T.2.2.2.2.2 0 0 0 [] [] [] 0 0 [] false 0 [] 0 0 0 [] [] [] [] 0 0 0 [] [] [] false (ByteArray.mk #[]) 0 0 false (ByteArray.mk #[]) 0 0 false 0 0 0 0 [] [] [])) else (m_pglog_Trim F T.1 T.2.1 T.2.2.1 T.2.2.2.1 T.2.2.2.2.1 32).bind (fun g => (m___primary_Machine__stored_2 F g.1 g.2.1.Epoch g.2.1.N g.2.2.1 g.2.2.2.1 g.2.2.2.2 J K L M O P Q R S e c m n o p q r s t u v w x y z A B C D E G a b h j k H f.Epoch f.N (a == 3) i b e c (ByteArray.mk #[]) 0 0 0 W).bind (fun d => (m___primary_Machine__ask_2 F f.Epoch f.N (a == 3) i b e c (ByteArray.mk #[]) 0 0 0).bind (fun ao => (m___primary_Machine__done_2 F g.1 g.2.1.Epoch g.2.1.N g.2.2.1 g.2.2.2.1 g.2.2.2.2 J K L M O P Q R S e c m n o p q r s t u v w x y z A B C D E G a b h j k H f.Epoch f.N (a == 3) i b e c (ByteArray.mk #[]) 0 0 0 W d.a0 d.a1 d.a2 d.a3 d.a4 d.a5 d.a6 d.a7 d.a8 d.a9 d.a10 d.a11 f.Epoch f.N (a == 3) i b e c).bind (fun ap => some (R___primary_Machine__write.mk 3 (ByteArray.mk #[]) 0 0 0 0 0 0 [] [] [] 0 0 [] false 0 [] 0 0 0 [] [] [] [] d.a0 d.a1 d.a2 d.a3 d.a4 d.a5 d.a6 d.a7 d.a8 d.a9 d.a10 d.a11 f.Epoch f.N (a == 3) i g.1 g.2.1.Epoch g.2.1.N g.2.2.1 g.2.2.2.1 g.2.2.2.2))))))))))) (fun (aj : Bool → Option (R___primary_Machine__write)) => (bif i == 0 then aj (!(a == 3)) else aj false)))))) (fun (ag : Bool → Option (R___primary_Machine__write)) => (bif i == 22 then ag (i == 22) else (bif i == 36 then ag (i == 36) else ag (i == 27))))))))

def m___primary_Machine__ask_3 (F : Nat) (b c : Int) (d : Bool) (e : Int) (f : ByteArray) (g h : Int) (i : ByteArray) (j k a : Int) : Option (Unit) :=
  (m___primary_Machine__to_3 F 34 0 0 0 0 0 0 0 0 0 a 0 0 0 0 0 0 0 0 0 0 0 0 false 0 (ByteArray.mk #[]) 0 0 (ByteArray.mk #[]) 0 0 0 (ByteArray.mk #[]) 0 0 0).bind (fun y5 => some ())

def m___primary_Machine__done_3 (F : Nat) (ab ac ad : Int) (ae : List S_api_Entry) (Y : List S_api_Last) (Z : List S_api_Item) (O P Q R S T U V W X b c d e f g h i j k l m n : Int) (o : Bool) (p : Int) (q : ByteArray) (r s : Int) (t : ByteArray) (u v w : Int) (x : ByteArray) (y : List UInt8) (z A B C D : Int) (E : Bool) (G : Int) (H : ByteArray) (I J : Int) (K : ByteArray) (L M N aa a : Int) : Option (Unit) :=
  some ()

def m___primary_Machine__read (F : Nat) (E G H : Int) (I : List S_api_Entry) (b : List S_api_Last) (c : List S_api_Item) (a J K L M N O P Q R S d e f g h i j k l m n o p : Int) (q : Bool) (r : Int) (s : ByteArray) (t u : Int) (v : ByteArray) (w x y : Int) (z : ByteArray) (A : List UInt8) (B C D : Int) : Option (Int) :=
  grd (I64 (a + 1)) ((m_slices_Clone___int_int_ F).bind (fun y5 => (m___primary_Machine__ask_3 F 0 0 false 0 (ByteArray.mk #[]) 0 0 (ByteArray.mk #[]) 0 0 (a + 1)).bind (fun T => (m___primary_Machine__done_3 F E G H I b c J K L M N O P Q R S d e f g h i j k l m n o p q r s t u v w x y z A B C D 0 0 false 0 (ByteArray.mk #[]) 0 0 (ByteArray.mk #[]) 0 0 (a + 1) (a + 1) (a + 1)).bind (fun U => some (a + 1)))))

def m___primary_Machine__begin (F : Nat) (R S T : Int) (U : List S_api_Entry) (O : List S_api_Last) (P : List S_api_Item) (D E G H I J K L M N c d e f g h i j k l m n o : Int) (p : Bool) (q : Int) (r : ByteArray) (s u : Int) (v : ByteArray) (w x a : Int) (y : ByteArray) (z : List UInt8) (A B C Q : Int) : Option (R___primary_Machine__begin) :=
  jn (fun (V : Bool) => (bif V then (m___primary_Machine__write F R S T U O P Q D E G H I J K L M N c d e f g h i j k l m n o p q r s u v w x a y z A B C).bind (fun b => (bif (b.t == 0) then some (R___primary_Machine__begin.mk 0 b.a0 b.a1 b.a2 b.a3 0 0 0 [] [] [] 0 0 [] false 0 [] 0 0 0 [] [] [] [] 0 0 0 [] [] [] false (ByteArray.mk #[]) 0 0 false (ByteArray.mk #[]) 0 0 false 0 0 0 0 [] [] [] 0) else (bif (b.t == 1) then some (R___primary_Machine__begin.mk 1 (ByteArray.mk #[]) 0 0 0 0 0 0 [] [] [] 0 0 [] false 0 [] 0 0 0 [] [] [] [] 0 0 0 [] [] [] false (ByteArray.mk #[]) 0 0 false (ByteArray.mk #[]) 0 0 false 0 0 0 0 [] [] [] 0) else (bif (b.t == 2) then some (R___primary_Machine__begin.mk 2 (ByteArray.mk #[]) 0 0 0 b.c0 b.c1 b.c2 b.c3 b.c4 b.c5 b.c6 b.c7 b.c8 b.c9 b.c10 b.c11 b.c12 b.c13 b.c14 b.c15 b.c16 b.c17 b.c18 0 0 0 [] [] [] false (ByteArray.mk #[]) 0 0 false (ByteArray.mk #[]) 0 0 false 0 0 0 0 [] [] [] 0) else some (R___primary_Machine__begin.mk 3 (ByteArray.mk #[]) 0 0 0 0 0 0 [] [] [] 0 0 [] false 0 [] 0 0 0 [] [] [] [] b.d0 b.d1 b.d2 b.d3 b.d4 b.d5 b.d6 b.d7 b.d8 b.d9 b.d10 b.d11 b.d12 b.d13 b.d14 b.d15 b.d16 b.d17 b.d18 b.d19 b.d20 b.d21 0))))) else jn (fun (W : Bool) => (bif W then (m___primary_Machine__read F R S T U O P Q D E G H I J K L M N c d e f g h i j k l m n o p q r s u v w x a y z A B C).bind (fun Z => some (R___primary_Machine__begin.mk 4 (ByteArray.mk #[]) 0 0 0 0 0 0 [] [] [] 0 0 [] false 0 [] 0 0 0 [] [] [] [] 0 0 0 [] [] [] false (ByteArray.mk #[]) 0 0 false (ByteArray.mk #[]) 0 0 false 0 0 0 0 [] [] [] Z)) else (m___primary_Machine__answer F D E G H I J K L M N c d e f g h i j k l m n o p q r s u v w x a y z A B C 0 0 0 0 0 0 0 0 0 0 0 0 0 0 0 0 0 0 0 0 0 0 0 false 0 (ByteArray.mk #[]) 0 0 (ByteArray.mk #[]) 0 0 0 (ByteArray.mk #[]) 0 0 22).bind (fun aa => some (R___primary_Machine__begin.mk 0 (ByteArray.mk #[]) 0 0 22 0 0 0 [] [] [] 0 0 [] false 0 [] 0 0 0 [] [] [] [] 0 0 0 [] [] [] false (ByteArray.mk #[]) 0 0 false (ByteArray.mk #[]) 0 0 false 0 0 0 0 [] [] [] 0)))) (fun (Y : Bool → Option (R___primary_Machine__begin)) => (bif a == 1 then Y (a == 1) else Y (a == 5))))) (fun (X : Bool → Option (R___primary_Machine__begin)) => (bif a == 2 then X (a == 2) else (bif a == 3 then X (a == 3) else X (a == 4))))

def m___primary_Machine__request (F : Nat) (R S T : Int) (U : List S_api_Entry) (O : List S_api_Last) (P : List S_api_Item) (Q D E G H I J K L M N b c d e f g h i j k l m n : Int) (o : Bool) (p : Int) (q : ByteArray) (r s : Int) (u : ByteArray) (v w x : Int) (y : ByteArray) (z : List UInt8) (A B C : Int) : Option (R___primary_Machine__request) :=
  (m_slices_ContainsFunc___api_Msg_api_Msg_ F D E G H I J K L M N b c d e f g h i j k l m n o p q r s u v w x y z A B C).bind (fun y6 => (m_slices_Clone___byte_byte_ F z).bind (fun y9 => (m___primary_Machine__begin F R S T U O P D E G H I J K L M N b c d e f g h i j k l m n o p q r s u v w x y y9 A B C Q).bind (fun a => (bif (a.t == 0) then some (R___primary_Machine__request.mk 0 a.a0 a.a1 a.a2 a.a3 0 0 0 [] [] [] 0 0 [] false 0 [] 0 0 0 [] [] [] [] [] 0 0 0 [] [] [] false (ByteArray.mk #[]) 0 0 false (ByteArray.mk #[]) 0 0 false 0 0 0 0 [] [] [] [] 0 []) else (bif (a.t == 1) then some (R___primary_Machine__request.mk 1 (ByteArray.mk #[]) 0 0 0 0 0 0 [] [] [] 0 0 [] false 0 [] 0 0 0 [] [] [] [] [] 0 0 0 [] [] [] false (ByteArray.mk #[]) 0 0 false (ByteArray.mk #[]) 0 0 false 0 0 0 0 [] [] [] [] 0 []) else (bif (a.t == 2) then some (R___primary_Machine__request.mk 2 (ByteArray.mk #[]) 0 0 0 a.c0 a.c1 a.c2 a.c3 a.c4 a.c5 a.c6 a.c7 a.c8 a.c9 a.c10 a.c11 a.c12 a.c13 a.c14 a.c15 a.c16 a.c17 y9 a.c18 0 0 0 [] [] [] false (ByteArray.mk #[]) 0 0 false (ByteArray.mk #[]) 0 0 false 0 0 0 0 [] [] [] [] 0 []) else (bif (a.t == 3) then some (R___primary_Machine__request.mk 3 (ByteArray.mk #[]) 0 0 0 0 0 0 [] [] [] 0 0 [] false 0 [] 0 0 0 [] [] [] [] [] a.d0 a.d1 a.d2 a.d3 a.d4 a.d5 a.d6 a.d7 a.d8 a.d9 a.d10 a.d11 a.d12 a.d13 a.d14 a.d15 a.d16 a.d17 a.d18 a.d19 a.d20 a.d21 y9 0 []) else some (R___primary_Machine__request.mk 4 (ByteArray.mk #[]) 0 0 0 0 0 0 [] [] [] 0 0 [] false 0 [] 0 0 0 [] [] [] [] [] 0 0 0 [] [] [] false (ByteArray.mk #[]) 0 0 false (ByteArray.mk #[]) 0 0 false 0 0 0 0 [] [] [] [] a.e0 y9))))))))

def m___primary_Machine__Step (F : Nat) (M N O : Int) (P : List S_api_Entry) (g : List S_api_Last) (h : List S_api_Item) (i b Q R c d S T e f U j k l m n o p q r s u v w : Int) (x : Bool) (y : Int) (z : ByteArray) (A B : Int) (C : ByteArray) (D E G : Int) (H : ByteArray) (I : List UInt8) (J K L : Int) : Option (R___primary_Machine__Step) :=
  grd ((!(S_api_Node.beq (S_api_Node.mk c d) (S_api_Node.mk 2 0))) = false) (grd ((!(S_api_Pg.beq (S_api_Pg.mk e f) (S_api_Pg.mk 1 0))) = false) (grd ((b == 30) = true) ((m___primary_Machine__request F M N O P g h i b Q R c d S T e f U j k l m n o p q r s u v w x y z A B C D E G H I J K L).bind (fun a => (bif (a.t == 0) then some (R___primary_Machine__Step.mk 0 a.a0 a.a1 a.a2 a.a3 0 0 0 [] [] [] 0 0 [] false 0 [] 0 0 0 [] [] [] [] [] 0 0 0 [] [] [] false (ByteArray.mk #[]) 0 0 false (ByteArray.mk #[]) 0 0 false 0 0 0 0 [] [] [] [] 0 []) else (bif (a.t == 1) then some (R___primary_Machine__Step.mk 1 (ByteArray.mk #[]) 0 0 0 0 0 0 [] [] [] 0 0 [] false 0 [] 0 0 0 [] [] [] [] [] 0 0 0 [] [] [] false (ByteArray.mk #[]) 0 0 false (ByteArray.mk #[]) 0 0 false 0 0 0 0 [] [] [] [] 0 []) else (bif (a.t == 2) then some (R___primary_Machine__Step.mk 2 (ByteArray.mk #[]) 0 0 0 a.c0 a.c1 a.c2 a.c3 a.c4 a.c5 a.c6 a.c7 a.c8 a.c9 a.c10 a.c11 a.c12 a.c13 a.c14 a.c15 a.c16 a.c17 a.c18 a.c19 0 0 0 [] [] [] false (ByteArray.mk #[]) 0 0 false (ByteArray.mk #[]) 0 0 false 0 0 0 0 [] [] [] [] 0 []) else (bif (a.t == 3) then some (R___primary_Machine__Step.mk 3 (ByteArray.mk #[]) 0 0 0 0 0 0 [] [] [] 0 0 [] false 0 [] 0 0 0 [] [] [] [] [] a.d0 a.d1 a.d2 a.d3 a.d4 a.d5 a.d6 a.d7 a.d8 a.d9 a.d10 a.d11 a.d12 a.d13 a.d14 a.d15 a.d16 a.d17 a.d18 a.d19 a.d20 a.d21 a.d22 0 []) else some (R___primary_Machine__Step.mk 4 (ByteArray.mk #[]) 0 0 0 0 0 0 [] [] [] 0 0 [] false 0 [] 0 0 0 [] [] [] [] [] 0 0 0 [] [] [] false (ByteArray.mk #[]) 0 0 false (ByteArray.mk #[]) 0 0 false 0 0 0 0 [] [] [] [] a.e0 a.e1)))))))))

def m___primary_Machine__Idle (F : Nat) : Option (Unit) :=
  some ()

def m_slices_Index___int_int__2 (F : Nat) (a1 : Int) : Option (Unit) :=
  grd ((a1 == 1) = true) (some ())

def m_slices_Delete___int_int_ (F : Nat) : Option (Unit) :=
  some ()

def m___primary_Machine__done_4 (F : Nat) (ag ah ai : Int) (aj : List S_api_Entry) (ac : List S_api_Last) (ad : List S_api_Item) (J K L M N O P Q R S e f g h i j k l m n o p q : Int) (r : Bool) (s : Int) (t : ByteArray) (u v : Int) (w : ByteArray) (x y z : Int) (A : ByteArray) (B : List UInt8) (C D E G H : Int) (T : Bool) (a : Int) (I : ByteArray) (U V : Int) (W : ByteArray) (X Y : Int) (Z : List UInt8) (aa ae : Int) : Option (R___primary_Machine__done_4) :=
  jn (fun (af : ByteArray × Int × Int) => match af with | (b, c, d) => (m___primary_Machine__answer F J K L M N O P Q R S e f g h i j k l m n o p q r s t u v w x y z A B C D E 0 0 0 0 0 0 0 0 0 0 0 0 0 0 0 0 0 0 0 0 0 0 0 false 0 (ByteArray.mk #[]) 0 0 b c d 0 (ByteArray.mk #[]) 0 0 a).bind (fun ak => some (R___primary_Machine__done_4.mk b c d))) (fun (ab : ByteArray × Int × Int → Option (R___primary_Machine__done_4)) => (bif a == 0 then ab (I, G, H) else ab ((ByteArray.mk #[]), 0, 0)))

def m___primary_Machine__begin_2 (F : Nat) (l m n : Int) (o : List S_api_Entry) (i : List S_api_Last) (j : List S_api_Item) (k f g h a : Int) (b : ByteArray) (c d e : Int) : Option (Unit) :=
  some ()

def m___primary_Machine__acked (F : Nat) (ac ad ae : Int) (af : List S_api_Entry) (S : List S_api_Last) (T : List S_api_Item) (U e f V W X Y Z aa g a h i j k l m n o p q r s : Int) (t : Bool) (u : Int) (v : ByteArray) (w x : Int) (y : ByteArray) (z A B : Int) (C : ByteArray) (D : List UInt8) (E G H b c : Int) (I : Bool) (d : Int) (J : ByteArray) (K L : Int) (M : ByteArray) (N O : Int) (P : List UInt8) (Q ab ai aj be bf bg ak bh bi bj al am an ao ap aq ar au av aw ax ag ah : Int) (ay : Bool) (az : Int) (a3 : ByteArray) (a4 a5 : Int) (a6 : ByteArray) (a7 a8 a9 : Int) (ba : ByteArray) (bb bc bd : Int) : Option (R___primary_Machine__acked) :=
  grd ((ak != 3) = false) (grd ((ai != 2) = false) ((m_slices_Index___int_int__2 F aj).bind (fun y8 => grd ((S_api_Version.beq (S_api_Version.mk ag ah) (S_api_Version.mk b c)) = true) ((m_slices_Delete___int_int_ F).bind (fun bk => (m___primary_Machine__done_4 F ac ad ae af S T U e f V W X Y Z aa g a h i j k l m n o p q r s t u v w x y z A B C D E G H b c I d J K L M N O P Q ab).bind (fun R => (m___primary_Machine__begin_2 F ac ad ae af S T ab e f g a R.a0 R.a1 R.a2 d).bind (fun bl => some (R___primary_Machine__acked.mk R.a0 R.a1 R.a2))))))))

def m___primary_Machine__Step_2 (F : Nat) (bb bc bd : Int) (be : List S_api_Entry) (ac : List S_api_Last) (ad : List S_api_Item) (O P Q R S T U V W X a b c d e f g h i j k l m : Int) (n : Bool) (o : Int) (p : ByteArray) (q r : Int) (s : ByteArray) (t u v : Int) (w : ByteArray) (x : List UInt8) (y z A B C : Int) (D : Bool) (E : Int) (G : ByteArray) (H I : Int) (J : ByteArray) (K L : Int) (M : List UInt8) (N ae bf bg Y Z bh bi aa ab bj af ag ah ai aj ak al am an ao ap aq ar : Int) (au : Bool) (av : Int) (aw : ByteArray) (ax ay : Int) (az : ByteArray) (a3 a4 a5 : Int) (a6 : ByteArray) (a7 a8 a9 : Int) : Option (R___primary_Machine__Step_2) :=
  grd ((!(S_api_Node.beq (S_api_Node.mk Y Z) (S_api_Node.mk 2 0))) = false) (grd ((!(S_api_Pg.beq (S_api_Pg.mk aa ab) (S_api_Pg.mk 1 0))) = false) ((m___primary_Machine__acked F bb bc bd be ac ad O P Q R S T U V W X a b c d e f g h i j k l m n o p q r s t u v w x y z A B C D E G H I J K L M N ae bf bg Y Z bh bi aa ab bj af ag ah ai aj ak al am an ao ap aq ar au av aw ax ay az a3 a4 a5 a6 a7 a8 a9).bind (fun ba => some (R___primary_Machine__Step_2.mk ba.a0 ba.a1 ba.a2))))

def m___primary_Machine__Idle_2 (F : Nat) : Option (Unit) :=
  some ()

def m___primary_Machine__done_5 (F : Nat) (af ag ah : Int) (ai : List S_api_Entry) (ab : List S_api_Last) (ac : List S_api_Item) (J K L M N O P Q R S e f g h i j k l m n o p q : Int) (r : Bool) (s : Int) (t : ByteArray) (u v : Int) (w : ByteArray) (x y z : Int) (A : ByteArray) (B : List UInt8) (C D E G H : Int) (T : Bool) (a : Int) (I : ByteArray) (U V : Int) (W : ByteArray) (X Y Z ad : Int) : Option (R___primary_Machine__done_5) :=
  jn (fun (ae : ByteArray × Int × Int) => match ae with | (b, c, d) => (m___primary_Machine__answer F J K L M N O P Q R S e f g h i j k l m n o p q r s t u v w x y z A B C D E 0 0 0 0 0 0 0 0 0 0 0 0 0 0 0 0 0 0 0 0 0 0 0 false 0 (ByteArray.mk #[]) 0 0 b c d 0 (ByteArray.mk #[]) 0 0 a).bind (fun aj => some (R___primary_Machine__done_5.mk b c d))) (fun (aa : ByteArray × Int × Int → Option (R___primary_Machine__done_5)) => (bif a == 0 then aa (I, G, H) else aa ((ByteArray.mk #[]), 0, 0)))

def m___primary_Machine__acked_2 (F : Nat) (ab ac ad : Int) (ae : List S_api_Entry) (R : List S_api_Last) (S : List S_api_Item) (T e f U V W X Y Z g a h i j k l m n o p q r s : Int) (t : Bool) (u : Int) (v : ByteArray) (w x : Int) (y : ByteArray) (z A B : Int) (C : ByteArray) (D : List UInt8) (E G H b c : Int) (I : Bool) (d : Int) (J : ByteArray) (K L : Int) (M : ByteArray) (N O P aa ah ai bd be bf aj bg bh bi ak al am an ao ap aq ar au av aw af ag : Int) (ax : Bool) (ay : Int) (az : ByteArray) (a3 a4 : Int) (a5 : ByteArray) (a6 a7 a8 : Int) (a9 : ByteArray) (ba bb bc : Int) : Option (R___primary_Machine__acked_2) :=
  grd ((aj != 3) = false) (grd ((ah != 2) = false) ((m_slices_Index___int_int__2 F ai).bind (fun y8 => grd ((S_api_Version.beq (S_api_Version.mk af ag) (S_api_Version.mk b c)) = true) ((m_slices_Delete___int_int_ F).bind (fun bj => (m___primary_Machine__done_5 F ab ac ad ae R S T e f U V W X Y Z g a h i j k l m n o p q r s t u v w x y z A B C D E G H b c I d J K L M N O P aa).bind (fun Q => (m___primary_Machine__begin_2 F ab ac ad ae R S aa e f g a Q.a0 Q.a1 Q.a2 d).bind (fun bk => some (R___primary_Machine__acked_2.mk Q.a0 Q.a1 Q.a2))))))))

def m___primary_Machine__Step_3 (F : Nat) (ba bb bc : Int) (bd : List S_api_Entry) (ab : List S_api_Last) (ac : List S_api_Item) (N O P Q R S T U V W a b c d e f g h i j k l m : Int) (n : Bool) (o : Int) (p : ByteArray) (q r : Int) (s : ByteArray) (t u v : Int) (w : ByteArray) (x : List UInt8) (y z A B C : Int) (D : Bool) (E : Int) (G : ByteArray) (H I : Int) (J : ByteArray) (K L M ad be bf X Y bg bh Z aa bi ae af ag ah ai aj ak al am an ao ap aq : Int) (ar : Bool) (au : Int) (av : ByteArray) (aw ax : Int) (ay : ByteArray) (az a3 a4 : Int) (a5 : ByteArray) (a6 a7 a8 : Int) : Option (R___primary_Machine__Step_3) :=
  grd ((!(S_api_Node.beq (S_api_Node.mk X Y) (S_api_Node.mk 2 0))) = false) (grd ((!(S_api_Pg.beq (S_api_Pg.mk Z aa) (S_api_Pg.mk 1 0))) = false) ((m___primary_Machine__acked_2 F ba bb bc bd ab ac N O P Q R S T U V W a b c d e f g h i j k l m n o p q r s t u v w x y z A B C D E G H I J K L M ad be bf X Y bg bh Z aa bi ae af ag ah ai aj ak al am an ao ap aq ar au av aw ax ay az a3 a4 a5 a6 a7 a8).bind (fun a9 => some (R___primary_Machine__Step_3.mk a9.a0 a9.a1 a9.a2))))

def m_tholelaw18_lives (F : Nat) : Option (Bool) :=
  (m_primary_New F).bind (fun y3 => (m___primary_Machine__Step F 3 0 0 ([] : List S_api_Entry) ([] : List S_api_Last) ([] : List S_api_Item) 0 30 3 0 2 0 0 0 1 0 5 1 0 0 0 0 0 0 0 0 0 0 0 0 false 0 (ByteArray.mk #[]) 0 0 (ByteArray.mk #[]) 0 0 2 (ByteArray.mk #[97]) [(120 : UInt8)] 0 0 0).bind (fun a => (bif (a.t == 0) then some false else (bif (a.t == 1) then some false else (bif (a.t == 2) then (m___primary_Machine__Idle F).bind (fun d => (m___primary_Machine__Step_2 F a.c12 a.c13 a.c14 a.c15 a.c16 a.c17 30 3 0 2 0 0 0 1 0 5 1 0 0 0 0 0 0 0 0 0 0 0 0 false 0 (ByteArray.mk #[]) 0 0 (ByteArray.mk #[]) 0 0 2 (ByteArray.mk #[97]) a.c18 0 0 0 a.c6 a.c7 a.c9 a.c10 (ByteArray.mk #[97]) 5 1 (ByteArray.mk #[97]) a.c6 a.c7 a.c19 0 0 2 1 2 0 0 3 1 0 0 0 0 0 0 0 0 0 0 0 0 0 a.c6 a.c7 a.c9 a.c10 (ByteArray.mk #[97]) 5 1 (ByteArray.mk #[]) 0 0 0 (ByteArray.mk #[]) 0 0 0).bind (fun e => (bif a.c10 == 0 then (m___primary_Machine__Idle_2 F).bind (fun f => some true) else some false))) else (bif (a.t == 3) then jn (fun (b : Bool) => (bif b then some false else (m___primary_Machine__Step_3 F a.d16 a.d17 a.d18 a.d19 a.d20 a.d21 30 3 0 2 0 0 0 1 0 5 1 0 0 0 0 0 0 0 0 0 0 0 0 false 0 (ByteArray.mk #[]) 0 0 (ByteArray.mk #[]) 0 0 2 (ByteArray.mk #[97]) a.d22 0 0 0 a.d12 a.d13 a.d14 a.d15 (ByteArray.mk #[97]) 5 1 (ByteArray.mk #[]) 0 0 0 0 2 1 2 0 0 3 1 0 0 0 0 0 0 0 0 0 0 0 0 0 a.d12 a.d13 a.d14 a.d15 (ByteArray.mk #[97]) 5 1 (ByteArray.mk #[]) 0 0 0 (ByteArray.mk #[]) 0 0 0).bind (fun g => (bif a.d15 == 0 then (m___primary_Machine__Idle_2 F).bind (fun h => some true) else some false)))) (fun (c : Bool → Option (Bool)) => (bif !a.d6 then c true else (m___primary_Machine__Idle F).bind (fun i => c false))) else some false))))))

def m_tholeref01_Crc (F : Nat) (a0 : List UInt8) : Option (Int) :=
  grd (Len a0.length) (loopL (fun (e : Int → Option (Int)) (f : Nat) (g : UInt8) (c : Int) => grd ((8 : Int) ≤ 9223372036854775807) (loopC (fun (d : Int → Option (Int)) (b : Nat) (a : Int) => grd (0 ≤ (IntKind.u64.wrap (b : Int))) ((some (iand .u32 (ixor .u32 a (IntKind.u32.wrap (Int.fdiv (g.toNat : Int) (2 ^ (min (Int.toNat (IntKind.u64.wrap (b : Int))) 8))))) 1)).bind (fun h => (bif h == 1 then d (ixor .u32 (Int.fdiv a (2 ^ 1)) 2197175160) else d (Int.fdiv a (2 ^ 1)))))) (fun (b : Nat) (a : Int) => e a) (Int.toNat (8 - (0 : Int))) 0 c)) (fun (f : Nat) (c : Int) => some (ixor .u32 c 4294967295)) a0 0 4294967295)

def m_primary_Take (F : Nat) (d : Int) (c : S_api_Version) (e : List S_api_Entry) (a : List S_api_Last) (b : List S_api_Item) (a1 : S_api_Entry) (a2 : Int) : Option (Int × S_api_Version × List S_api_Entry × List S_api_Last × List S_api_Item × Int) :=
  (m_pglog_Head F d c e a b).bind (fun y3 => (m_pglog_Cmp F a1.Version y3).bind (fun y6 => (bif decide (y6 ≤ 0) then (m_pglog_Copy_2 F d c e a b).bind (fun g => some (g.1, g.2.1, g.2.2.1, g.2.2.2.1, g.2.2.2.2, 0)) else grd (I64 (a1.Version.N - 1)) ((bif (a1.Version.N - 1) != y3.N then (m_pglog_Copy_2 F d c e a b).bind (fun h => some (h.1, h.2.1, h.2.2.1, h.2.2.2.1, h.2.2.2.2, (-1))) else (m_pglog_Append F d c e a b a1 a2).bind (fun f => (bif f.2.2.2.2.2 != 0 then (m_pglog_Copy_2 F d c e a b).bind (fun i => some (i.1, i.2.1, i.2.2.1, i.2.2.2.1, i.2.2.2.2, (-1))) else (m_pglog_Trim F f.1 f.2.1 f.2.2.1 f.2.2.2.1 f.2.2.2.2.1 32).bind (fun j => some (j.1, j.2.1, j.2.2.1, j.2.2.2.1, j.2.2.2.2, 1)))))))))

def m_tholeref13_Head (F : Nat) (e : Int) (b : S_api_Version) (a : List S_api_Entry) (c : List S_api_Last) (d : List S_api_Item) : Option (S_api_Version) :=
  (bif (a.length : Int) == 0 then some b else grd (I64 ((a.length : Int) - 1)) (grd (Ix ((a.length : Int) - 1) a.length) (some ((a.getD (Int.toNat ((a.length : Int) - 1)) dS_api_Entry).Version))))

def m_tholeref01_Crc_2 (F : Nat) : Option (Int) :=
  some 0

def m___primary_Machine__to_4 (F : Nat) (B C D E G H I J K L a b c d e f g h i j k l m : Int) (n : Bool) (o : Int) (p : ByteArray) (q r : Int) (s : ByteArray) (t u v : Int) (w : ByteArray) (x y : Int) (z : List ByteArray) (A : Int) : Option (Unit) :=
  some ()

def m___primary_Machine__answer_2 (F : Nat) (am an ao ap aq ar au av aw B a L M N O P Q R S T U V W : Int) (X : Bool) (Y : Int) (Z : ByteArray) (aa ab : Int) (ac : ByteArray) (ad ae af : Int) (ag : ByteArray) (ah : List UInt8) (ai aj ak ax C D E G H I J K ay al b c d e f g h i j k l m : Int) (n : Bool) (o : Int) (p : ByteArray) (q r : Int) (s : ByteArray) (t u v : Int) (w : ByteArray) (x y : Int) (z : List ByteArray) (A : Int) : Option (Unit) :=
  (m___primary_Machine__to_4 F 31 C D E G H I J K B a b c d e f g h i j k l m n o p q r s t u v w x y z A).bind (fun y4 => some ())

def m___primary_Machine__done_6 (F : Nat) (ac ad ae : Int) (af : List S_api_Entry) (P : List S_api_Last) (O : List S_api_Item) (D E G H I J K L M N d e f g h i j k l m n o p : Int) (q : Bool) (r : Int) (s : ByteArray) (t u : Int) (v : ByteArray) (w x b : Int) (a : ByteArray) (y : List UInt8) (z A B R S : Int) (T : Bool) (U : Int) (V : ByteArray) (W X : Int) (Y : ByteArray) (Z aa ab aj : Int) : Option (R___primary_Machine__done_6) :=
  jn (fun (C : Nat) => (m___primary_Machine__answer F D E G H I J K L M N d e f g h i j k l m n o p q r s t u v w x b a y z A B 0 0 0 0 0 0 0 0 0 0 0 0 0 0 0 0 0 0 0 0 0 0 0 false 0 (ByteArray.mk #[]) 0 0 (ByteArray.mk #[]) 0 0 0 (ByteArray.mk #[]) 0 0 (C : Int)).bind (fun am => some (R___primary_Machine__done_6.mk 0 (C : Int) []))) (fun (ag : Nat → Option (R___primary_Machine__done_6)) => (bif b == 5 then grd (Len O.length) (loopL (fun (ah : List ByteArray → Option (R___primary_Machine__done_6)) (Q : Nat) (ai : S_api_Item) (c : List ByteArray) => grd (App (c.length + [ai.Name].length) 16) (ah (c ++ [ai.Name]))) (fun (Q : Nat) (c : List ByteArray) => (m___primary_Machine__answer_2 F D E G H I J K L M N d e f g h i j k l m n o p q r s t u v w x b a y z A B 0 0 0 0 0 0 0 0 0 0 0 0 0 0 0 0 0 0 0 0 0 0 0 false 0 (ByteArray.mk #[]) 0 0 (ByteArray.mk #[]) 0 0 0 (ByteArray.mk #[]) 0 0 c 0).bind (fun an => some (R___primary_Machine__done_6.mk 1 0 c))) O 0 ([] : List ByteArray)) else (m_place_Good F a).bind (fun ak => (bif !ak then ag 36 else (m_pglog_Find F ac (S_api_Version.mk ad ae) af P O a).bind (fun al => (bif al.2 then some (R___primary_Machine__done_6.mk 2 0 []) else ag 2))))))

def m___primary_Machine__begin_3 (F : Nat) (i j k : Int) (l : List S_api_Entry) (f : List S_api_Last) (g : List S_api_Item) (h c d e a b : Int) : Option (Unit) :=
  some ()

def m___primary_Machine__begin_4 (F : Nat) (i j k : Int) (l : List S_api_Entry) (f : List S_api_Last) (g : List S_api_Item) (h c d e a : Int) (b : List ByteArray) : Option (Unit) :=
  some ()

def m___primary_Machine__begin_5 (F : Nat) (aa ab ac : Int) (ad : List S_api_Entry) (X : List S_api_Last) (Y : List S_api_Item) (N O P Q R S T U V W a b c d e f g h i j k l m : Int) (n : Bool) (o : Int) (p : ByteArray) (q r : Int) (s : ByteArray) (t u v : Int) (w : ByteArray) (x : List UInt8) (y z A B C : Int) (D : Bool) (E : Int) (G : ByteArray) (H I : Int) (J : ByteArray) (K L M Z : Int) : Option (Unit) :=
  some ()

def m___primary_Machine__acked_3 (F : Nat) (ab ac ad : Int) (ae : List S_api_Entry) (R : List S_api_Last) (S : List S_api_Item) (U b c V W X Y Z aa d a f g h i j k l m n o p q : Int) (r : Bool) (s : Int) (u : ByteArray) (v w : Int) (x : ByteArray) (y z A : Int) (B : ByteArray) (C : List UInt8) (D E G H I : Int) (J : Bool) (K : Int) (L : ByteArray) (M N : Int) (O : ByteArray) (P Q e T ah ai bc bd be aj bf bg bh ag ak al am an ao ap aq ar au av aw ax : Int) (ay : Bool) (az : Int) (a1 : ByteArray) (a2 a3 : Int) (a4 : ByteArray) (a5 a6 a7 : Int) (a8 : ByteArray) (a9 ba bb : Int) : Option (R___primary_Machine__acked_3) :=
  grd ((aj != 3) = false) (grd ((ah != 2) = false) ((m_slices_Index___int_int__2 F ai).bind (fun y8 => grd ((!(ag == e)) = false) ((m_slices_Delete___int_int_ F).bind (fun bi => (m___primary_Machine__done_6 F ab ac ad ae R S U b c V W X Y Z aa d a f g h i j k l m n o p q r s u v w x y z A B C D E G H I J K L M N O P Q e T).bind (fun af => (bif (af.t == 0) then (m___primary_Machine__begin_3 F ab ac ad ae R S T b c d a af.a0).bind (fun bj => some (R___primary_Machine__acked_3.mk 0 af.a0 [])) else (bif (af.t == 1) then (m___primary_Machine__begin_4 F ab ac ad ae R S T b c d a af.b0).bind (fun bk => some (R___primary_Machine__acked_3.mk 1 0 af.b0)) else (m___primary_Machine__begin_5 F ab ac ad ae R S U b c V W X Y Z aa d a f g h i j k l m n o p q r s u v w x y z A B C D E G H I J K L M N O P Q e T).bind (fun bl => some (R___primary_Machine__acked_3.mk 2 0 []))))))))))

def m___primary_Machine__Step_4 (F : Nat) (a9 ba bb : Int) (bc : List S_api_Entry) (ad : List S_api_Last) (ae : List S_api_Item) (O P Q R S T U V W X a b c d e f g h i j k l m : Int) (n : Bool) (o : Int) (p : ByteArray) (q r : Int) (s : ByteArray) (u v w : Int) (x : ByteArray) (y : List UInt8) (z A B C D : Int) (E : Bool) (G : Int) (H : ByteArray) (I J : Int) (K : ByteArray) (L M N af bd be Z aa bf bg ab ac bh ag ah ai aj ak al am an ao ap aq ar au : Int) (av : Bool) (aw : Int) (ax : ByteArray) (ay az : Int) (a1 : ByteArray) (a2 a3 a4 : Int) (a5 : ByteArray) (a6 a7 a8 : Int) : Option (R___primary_Machine__Step_4) :=
  grd ((!(S_api_Node.beq (S_api_Node.mk Z aa) (S_api_Node.mk 2 0))) = false) (grd ((!(S_api_Pg.beq (S_api_Pg.mk ab ac) (S_api_Pg.mk 1 0))) = false) ((m___primary_Machine__acked_3 F a9 ba bb bc ad ae O P Q R S T U V W X a b c d e f g h i j k l m n o p q r s u v w x y z A B C D E G H I J K L M N af bd be Z aa bf bg ab ac bh ag ah ai aj ak al am an ao ap aq ar au av aw ax ay az a1 a2 a3 a4 a5 a6 a7 a8).bind (fun Y => (bif (Y.t == 0) then some (R___primary_Machine__Step_4.mk 0 Y.a0 []) else (bif (Y.t == 1) then some (R___primary_Machine__Step_4.mk 1 0 Y.b0) else some (R___primary_Machine__Step_4.mk 2 0 []))))))

def m___primary_Machine__Got (F : Nat) (d e f : Int) (g : List S_api_Entry) (a : List S_api_Last) (b : List S_api_Item) (c : Int) : Option (Unit) :=
  some ()

def m_primary_copied_3 (F : Nat) : Option (Unit) :=
  (m_slices_Clone___byte_byte__2 F).bind (fun y3 => some ())

def m___primary_Machine__begin_6 (F : Nat) (h i j : Int) (k : List S_api_Entry) (e : List S_api_Last) (f : List S_api_Item) (g b c d a : Int) : Option (Unit) :=
  some ()

def m___primary_Machine__Got_2 (F : Nat) (aa ab ac : Int) (ad : List S_api_Entry) (M : List S_api_Last) (N : List S_api_Item) (E b c G H I J K L d a e f g h i j k l m n o p : Int) (q : Bool) (r : Int) (s : ByteArray) (t u : Int) (v : ByteArray) (w x y : Int) (z : ByteArray) (A : List UInt8) (B C D P Q : Int) (R : Bool) (S : Int) (T : ByteArray) (U V : Int) (W : ByteArray) (X Y Z O : Int) : Option (Unit) :=
  (m_primary_copied_3 F).bind (fun y6 => (m___primary_Machine__answer F E b c G H I J K L d a e f g h i j k l m n o p q r s t u v w x y z A B C D 0 0 0 0 0 0 0 0 0 0 0 0 0 0 0 0 0 0 0 0 0 0 0 false 0 (ByteArray.mk #[]) 0 0 (ByteArray.mk #[]) 0 0 0 (ByteArray.mk #[]) 0 0 0).bind (fun y9 => (m___primary_Machine__begin_6 F aa ab ac ad M N O b c d a).bind (fun ae => some ())))

def m___primary_Machine__Waiting (F : Nat) (d e f : Int) (g : List S_api_Entry) (a : List S_api_Last) (b : List S_api_Item) (c : Int) : Option (Unit) :=
  some ()

def m___primary_Machine__State (F : Nat) (c d e : Int) (f : List S_api_Entry) (a : List S_api_Last) (b : List S_api_Item) (g : Int) : Option (R___primary_Machine__State) :=
  (m_pglog_Copy_2 F c (S_api_Version.mk d e) f a b).bind (fun y4 => some (R___primary_Machine__State.mk y4.1 y4.2.1.Epoch y4.2.1.N y4.2.2.1 y4.2.2.2.1 y4.2.2.2.2))

def m_tholeref13_Same (F : Nat) (l : Int) (j : S_api_Version) (e : List S_api_Entry) (a : List S_api_Last) (b : List S_api_Item) (m : Int) (k : S_api_Version) (f : List S_api_Entry) (c : List S_api_Last) (d : List S_api_Item) : Option (Bool) :=
  jn (fun (n : Bool) => (bif n then some false else grd (Len e.length) (loopL (fun (p : Unit → Option (Bool)) (g : Nat) (s : S_api_Entry) (_ : Unit) => grd (g < f.length) ((bif !(S_api_Entry.beq s (f.getD g dS_api_Entry)) then some false else p ()))) (fun (g : Nat) (_ : Unit) => grd (Len a.length) (loopL (fun (q : Unit → Option (Bool)) (h : Nat) (t : S_api_Last) (_ : Unit) => grd (h < c.length) ((bif !(S_api_Last.beq t (c.getD h dS_api_Last)) then some false else q ()))) (fun (h : Nat) (_ : Unit) => grd (Len b.length) (loopL (fun (o : Unit → Option (Bool)) (i : Nat) (r : S_api_Item) (_ : Unit) => grd (i < d.length) ((bif !(S_api_Item.beq r (d.getD i dS_api_Item)) then some false else o ()))) (fun (i : Nat) (_ : Unit) => some true) b 0 ())) a 0 ())) e 0 ()))) (fun (J7 : Bool → Option (Bool)) => (bif l != m then J7 true else (bif !(S_api_Version.beq j k) then J7 true else (bif (e.length : Int) != (f.length : Int) then J7 true else (bif (a.length : Int) != (c.length : Int) then J7 true else J7 ((b.length : Int) != (d.length : Int)))))))

def m_tholeref13_below (F : Nat) (a0 : S_api_Version) : Option (Bool) :=
  (bif decide (a0.Epoch < 0) then some true else some (decide (a0.N < 0)))

def m_tholeref13_Cmp (F : Nat) (a0 a1 : S_api_Version) : Option (Int) :=
  jn (fun (a : Bool) => (bif a then some (-1) else (bif S_api_Version.beq a0 a1 then some 0 else some 1))) (fun (J9 : Bool → Option (Int)) => (bif decide (a0.Epoch < a1.Epoch) then J9 (decide (a0.Epoch < a1.Epoch)) else (bif a0.Epoch == a1.Epoch then J9 (decide (a0.N < a1.N)) else J9 false)))

def m_tholeref09_Good (F : Nat) (a0 : ByteArray) : Option (Bool) :=
  grd ((a0.size : Int) ≤ 9223372036854775807) (loopC (fun (c : Unit → Option (Bool)) (a : Nat) (_ : Unit) => jn (fun (b : Bool) => (bif b then some false else c ())) (fun (d : Bool → Option (Bool)) => grd (a < a0.size) ((bif decide ((((a0.data.getD a 0).toNat : Nat) : Int) < 33) then d true else d (decide ((((a0.data.getD a 0).toNat : Nat) : Int) > 126)))))) (fun (a : Nat) (_ : Unit) => (bif decide ((a0.size : Int) ≥ 1) then some (decide ((a0.size : Int) ≤ 64)) else some false)) (Int.toNat ((a0.size : Int) - (0 : Int))) 0 ())

def m_tholeref13_Check (F : Nat) (n : Int) (f : S_api_Version) (j : List S_api_Entry) (b : List S_api_Last) (a : List S_api_Item) : Option (Int) :=
  jn (fun (p : Bool) => (bif p then some 22 else grd (Len j.length) (loopL (fun (v : Int × Int → Option (Int)) (q : Nat) (o : S_api_Entry) (w : Int × Int) => match w with | (d, e) => jn (fun (r : Bool) => (bif r then some 22 else v (o.Version.Epoch, o.Version.N))) (fun (x : Bool → Option (Int)) => (m_tholeref13_below F o.Version).bind (fun E => (bif E then x true else (m_tholeref13_Cmp F o.Version (S_api_Version.mk d e)).bind (fun G => x (decide (G ≤ 0))))))) (fun (q : Nat) (y : Int × Int) => match y with | (d, e) => grd (Len a.length) (loopL (fun (s : Unit → Option (Int)) (g : Nat) (i : S_api_Item) (_ : Unit) => jn (fun (t : Bool) => (bif t then some 22 else s ())) (fun (h : Bool → Option (Int)) => (m_tholeref09_Good F i.Name).bind (fun z => (bif !z then h true else (m_tholeref13_below F i.Version).bind (fun A => (bif A then h true else (bif S_api_Version.beq i.Version (S_api_Version.mk 0 0) then h true else (m_tholeref13_Cmp F i.Version (S_api_Version.mk d e)).bind (fun B => (bif decide (B > 0) then h true else (bif decide ((g : Int) > 0) then grd (I64 ((g : Int) - 1)) (grd (Ix ((g : Int) - 1) a.length) (h (!(Op.bytesLess ((a.getD (Int.toNat ((g : Int) - 1)) dS_api_Item).Name).toList i.Name.toList)))) else h false)))))))))) (fun (g : Nat) (_ : Unit) => grd (Len b.length) (loopL (fun (u : Unit → Option (Int)) (c : Nat) (l : S_api_Last) (_ : Unit) => jn (fun (m : Bool) => (bif m then some 22 else u ())) (fun (k : Bool → Option (Int)) => (m_tholeref13_below F l.Version).bind (fun C => (bif C then k true else (m_tholeref13_Cmp F l.Version (S_api_Version.mk d e)).bind (fun D => (bif decide (D > 0) then k true else (bif decide ((c : Int) > 0) then grd (I64 ((c : Int) - 1)) (grd (Ix ((c : Int) - 1) b.length) (k (decide (((b.getD (Int.toNat ((c : Int) - 1)) dS_api_Last).Client) ≥ l.Client)))) else k false))))))) (fun (c : Nat) (_ : Unit) => some 0) b 0 ())) a 0 ())) j 0 (f.Epoch, f.N)))) (fun (J7 : Bool → Option (Int)) => (bif decide (n < 0) then J7 true else (m_tholeref13_below F f).bind (fun y4 => (bif y4 then J7 true else J7 (decide ((a.length : Int) > 32))))))

def m_tholelaw18_PrimaryOnce (F : Nat) (a0 : List S_api_Op) (a1 : List Int) : Option (Bool) :=
  (m_primary_New F).bind (fun y3 => (bif decide ((a0.length : Int) > 100) then (m_tholelaw18_lives F).bind (fun ak => some ak) else grd (Len a0.length) (loopL (fun (Y : Int × Int × Int × Int × Int × Int × Int × List S_api_Msg_m × List S_api_Entry × List S_api_Last × List S_api_Item × List S_api_Entry × List S_api_Last × List S_api_Item → Option (Bool)) (q : Nat) (p : S_api_Op) (aa : Int × Int × Int × Int × Int × Int × Int × List S_api_Msg_m × List S_api_Entry × List S_api_Last × List S_api_Item × List S_api_Entry × List S_api_Last × List S_api_Item) => match aa with | (D, E, G, B, w, x, y, z, L, M, O, H, I, J) => grd (App (z.length + 1) 552) ((some (z ++ [(S_api_Msg_m.mk 30 3 0 2 0 0 0 1 0 5 ((q + 1 : Nat) : Int) 0 0 0 0 0 0 0 0 0 0 0 0 false 0 (ByteArray.mk #[]) 0 0 (ByteArray.mk #[]) 0 0 p.Kind p.Name p.Data p.Expect.Epoch p.Expect.N 0)])).bind (fun r => (some [(S_api_Msg_m.mk 30 3 0 2 0 0 0 1 0 5 ((q + 1 : Nat) : Int) 0 0 0 0 0 0 0 0 0 0 0 0 false 0 (ByteArray.mk #[]) 0 0 (ByteArray.mk #[]) 0 0 p.Kind p.Name p.Data p.Expect.Epoch p.Expect.N 0)]).bind (fun K => jn (fun (C : List S_api_Msg_m) => grd (Len C.length) (loopL (fun (s : Int × Int × Int × Int × Int × Int × Int × List S_api_Entry × List S_api_Last × List S_api_Item × List S_api_Entry × List S_api_Last × List S_api_Item → Option (Bool)) (Z : Nat) (a : S_api_Msg_m) (ab : Int × Int × Int × Int × Int × Int × Int × List S_api_Entry × List S_api_Last × List S_api_Item × List S_api_Entry × List S_api_Last × List S_api_Item) => match ab with | (g, h, i, c, d, e, f, m, n, o, j, k, l) => (m___primary_Machine__Step F g h i m n o c a.c0 a.c1 a.c2 a.c3 a.c4 a.c5 a.c6 a.c7 a.c8 a.c9 a.c10 a.c11 a.c15 a.c16 a.c17 a.c18 a.c19 a.c20 a.c21 a.c22 a.c23 a.c27 a.c28 a.c29 a.c30 a.c31 a.c32 a.c33 a.c34 a.c35 a.c36 a.c38 a.c39 a.c40 a.c41 a.c42 a.c45).bind (fun b => (bif (b.t == 0) then s (g, h, i, c, d, e, f, m, n, o, j, k, l) else (bif (b.t == 1) then s (g, h, i, c, d, e, f, m, n, o, j, k, l) else (bif (b.t == 2) then (m_tholeref01_Crc F b.c11).bind (fun ac => (m_primary_Take F d (S_api_Version.mk e f) j k l (S_api_Entry.mk (S_api_Version.mk b.c6 b.c7) b.c9 b.c10 a.c39 a.c9 a.c10) ac).bind (fun u => jn (fun (P : Bool) => (bif P then some false else (m___primary_Machine__Step_2 F b.c12 b.c13 b.c14 b.c15 b.c16 b.c17 a.c0 a.c1 a.c2 a.c3 a.c4 a.c5 a.c6 a.c7 a.c8 a.c9 a.c10 a.c11 a.c15 a.c16 a.c17 a.c18 a.c19 a.c20 a.c21 a.c22 a.c23 a.c27 a.c28 a.c29 a.c30 a.c31 a.c32 a.c33 a.c34 a.c35 a.c36 a.c38 a.c39 b.c18 a.c41 a.c42 a.c45 b.c6 b.c7 b.c9 b.c10 a.c39 a.c9 a.c10 a.c39 b.c6 b.c7 b.c19 0 c 2 1 2 0 0 3 1 0 0 0 0 0 0 0 0 0 0 0 0 0 b.c6 b.c7 b.c9 b.c10 a.c39 a.c9 a.c10 (ByteArray.mk #[]) 0 0 0 (ByteArray.mk #[]) 0 0 0).bind (fun al => s (b.c12, b.c13, b.c14, c, u.1, u.2.1.Epoch, u.2.1.N, b.c15, b.c16, b.c17, u.2.2.1, u.2.2.2.1, u.2.2.2.2.1)))) (fun (Q : Bool → Option (Bool)) => (bif u.2.2.2.2.2 != 1 then Q true else (m_tholeref13_Head F d (S_api_Version.mk e f) j k l).bind (fun R => grd (I64 (R.N + 1)) (Q (b.c7 != (R.N + 1)))))))) else (bif (b.t == 3) then (m_tholeref01_Crc_2 F).bind (fun ad => (m_primary_Take F d (S_api_Version.mk e f) j k l (S_api_Entry.mk (S_api_Version.mk b.d12 b.d13) b.d14 b.d15 a.c39 a.c9 a.c10) ad).bind (fun v => jn (fun (S : Bool) => (bif S then some false else (m___primary_Machine__Step_3 F b.d16 b.d17 b.d18 b.d19 b.d20 b.d21 a.c0 a.c1 a.c2 a.c3 a.c4 a.c5 a.c6 a.c7 a.c8 a.c9 a.c10 a.c11 a.c15 a.c16 a.c17 a.c18 a.c19 a.c20 a.c21 a.c22 a.c23 a.c27 a.c28 a.c29 a.c30 a.c31 a.c32 a.c33 a.c34 a.c35 a.c36 a.c38 a.c39 b.d22 a.c41 a.c42 a.c45 b.d12 b.d13 b.d14 b.d15 a.c39 a.c9 a.c10 (ByteArray.mk #[]) 0 0 0 c 2 1 2 0 0 3 1 0 0 0 0 0 0 0 0 0 0 0 0 0 b.d12 b.d13 b.d14 b.d15 a.c39 a.c9 a.c10 (ByteArray.mk #[]) 0 0 0 (ByteArray.mk #[]) 0 0 0).bind (fun am => s (b.d16, b.d17, b.d18, c, v.1, v.2.1.Epoch, v.2.1.N, b.d19, b.d20, b.d21, v.2.2.1, v.2.2.2.1, v.2.2.2.2.1)))) (fun (T : Bool → Option (Bool)) => (bif v.2.2.2.2.2 != 1 then T true else (m_tholeref13_Head F d (S_api_Version.mk e f) j k l).bind (fun U => grd (I64 (U.N + 1)) (T (b.d13 != (U.N + 1)))))))) else jn (fun (_ : Unit) => (m___primary_Machine__Got F g h i m n o b.e0).bind (fun an => s (g, h, i, b.e0, d, e, f, m, n, o, j, k, l))) (fun (V : Unit → Option (Bool)) => (m___primary_Machine__Step_4 F g h i m n o a.c0 a.c1 a.c2 a.c3 a.c4 a.c5 a.c6 a.c7 a.c8 a.c9 a.c10 a.c11 a.c15 a.c16 a.c17 a.c18 a.c19 a.c20 a.c21 a.c22 a.c23 a.c27 a.c28 a.c29 a.c30 a.c31 a.c32 a.c33 a.c34 a.c35 a.c36 a.c38 a.c39 b.e1 a.c41 a.c42 a.c45 0 0 false 0 (ByteArray.mk #[]) 0 0 (ByteArray.mk #[]) 0 0 b.e0 b.e0 2 1 2 0 0 3 1 0 0 b.e0 0 0 0 0 0 0 0 0 0 0 0 0 false 0 (ByteArray.mk #[]) 0 0 (ByteArray.mk #[]) 0 0 0 (ByteArray.mk #[]) 0 0 0).bind (fun W => (bif (W.t == 0) then V () else (bif (W.t == 1) then V () else (m___primary_Machine__Got_2 F g h i m n o a.c0 a.c1 a.c2 a.c3 a.c4 a.c5 a.c6 a.c7 a.c8 a.c9 a.c10 a.c11 a.c15 a.c16 a.c17 a.c18 a.c19 a.c20 a.c21 a.c22 a.c23 a.c27 a.c28 a.c29 a.c30 a.c31 a.c32 a.c33 a.c34 a.c35 a.c36 a.c38 a.c39 b.e1 a.c41 a.c42 a.c45 0 0 false 0 (ByteArray.mk #[]) 0 0 (ByteArray.mk #[]) 0 0 b.e0 b.e0).bind (fun ao => s (g, h, i, b.e0, d, e, f, m, n, o, j, k, l)))))))))))) (fun (Z : Nat) (ae : Int × Int × Int × Int × Int × Int × Int × List S_api_Entry × List S_api_Last × List S_api_Item × List S_api_Entry × List S_api_Last × List S_api_Item) => match ae with | (g, h, i, c, d, e, f, m, n, o, j, k, l) => (m___primary_Machine__Idle_2 F).bind (fun ap => (m___primary_Machine__Waiting F g h i m n o c).bind (fun aq => Y (g, h, i, c, d, e, f, r, m, n, o, j, k, l)))) C 0 (D, E, G, B, w, x, y, L, M, O, H, I, J))) (fun (X : List S_api_Msg_m → Option (Bool)) => (bif decide ((q : Int) < (a1.length : Int)) then grd ((Int.toNat (IntKind.i64.wrap (Int.tmod (a1.getD q 0) (IntKind.u64.wrap (r.length : Int))))) < r.length) ((some (r.getD (Int.toNat (IntKind.i64.wrap (Int.tmod (a1.getD q 0) (IntKind.u64.wrap (r.length : Int))))) dS_api_Msg_m)).bind (fun af => grd (q < a1.length) (grd ((IntKind.u64.wrap (r.length : Int)) ≠ 0) (grd (Ix (IntKind.i64.wrap (Int.tmod (a1.getD q 0) (IntKind.u64.wrap (r.length : Int)))) r.length) (grd (App (K.length + 1) 552) (X (K ++ [af]))))))) else X K)))))) (fun (q : Nat) (ag : Int × Int × Int × Int × Int × Int × Int × List S_api_Msg_m × List S_api_Entry × List S_api_Last × List S_api_Item × List S_api_Entry × List S_api_Last × List S_api_Item) => match ag with | (D, E, G, B, w, x, y, z, L, M, O, H, I, J) => (m___primary_Machine__State F D E G L M O B).bind (fun A => (m_tholeref13_Same F A.a0 (S_api_Version.mk A.a1 A.a2) A.a3 A.a4 A.a5 w (S_api_Version.mk x y) H I J).bind (fun ah => (bif ah then (m_tholeref13_Check F w (S_api_Version.mk x y) H I J).bind (fun ai => (bif ai == 0 then (m_tholelaw18_lives F).bind (fun aj => some aj) else some false)) else some false)))) a0 0 (3, 0, 0, 0, 3, 0, 0, ([] : List S_api_Msg_m), ([] : List S_api_Entry), ([] : List S_api_Last), ([] : List S_api_Item), ([] : List S_api_Entry), ([] : List S_api_Last), ([] : List S_api_Item)))))

end Go.Proofs.YtjnbkhnebmlilaaGreat
