/-
  CHAPTER 19p: the models of its functions.
-/
import Derived.Test.YtmhejmkelhflmaaGreatProg
import Derived.Test.YtmhejmkelhflmaaGreatGxh
set_option linter.unusedVariables false
set_option linter.unusedSimpArgs false
set_option maxRecDepth 100000
namespace Go.Proofs.YtmhejmkelhflmaaGreat
open Go Go.RowKit Sx

structure S_api_Node where
  Kind : Int
  Id : Int
def S_api_Node.row (x : S_api_Node) : List Value := [.int .i64 x.Kind, .int .i64 x.Id]
def dS_api_Node : S_api_Node := S_api_Node.mk 0 0
def S_api_Node.beq (x y : S_api_Node) : Bool := (x.Kind == y.Kind) && ((x.Id == y.Id) && true)
theorem S_api_Node.beq_iff (x y : S_api_Node) : S_api_Node.beq x y = true ↔ x = y := by
  cases x; cases y; simp [S_api_Node.beq, str_beq]

structure S_api_Pg where
  Pool : Int
  Seed : Int
def S_api_Pg.row (x : S_api_Pg) : List Value := [.int .i64 x.Pool, .int .i64 x.Seed]
def dS_api_Pg : S_api_Pg := S_api_Pg.mk 0 0
def S_api_Pg.beq (x y : S_api_Pg) : Bool := (x.Pool == y.Pool) && ((x.Seed == y.Seed) && true)
theorem S_api_Pg.beq_iff (x y : S_api_Pg) : S_api_Pg.beq x y = true ↔ x = y := by
  cases x; cases y; simp [S_api_Pg.beq, str_beq]

structure S_api_Version where
  Epoch : Int
  N : Int
def S_api_Version.row (x : S_api_Version) : List Value := [.int .i64 x.Epoch, .int .i64 x.N]
def dS_api_Version : S_api_Version := S_api_Version.mk 0 0
def S_api_Version.beq (x y : S_api_Version) : Bool := (x.Epoch == y.Epoch) && ((x.N == y.N) && true)
theorem S_api_Version.beq_iff (x y : S_api_Version) : S_api_Version.beq x y = true ↔ x = y := by
  cases x; cases y; simp [S_api_Version.beq, str_beq]

structure S_api_Info where
  Les : Int
  Head : S_api_Version
  Tail : S_api_Version
  Born : Int
def S_api_Info.row (x : S_api_Info) : List Value := [.int .i64 x.Les, .int .i64 x.Head.Epoch, .int .i64 x.Head.N, .int .i64 x.Tail.Epoch, .int .i64 x.Tail.N, .int .i64 x.Born]
def dS_api_Info : S_api_Info := S_api_Info.mk 0 dS_api_Version dS_api_Version 0
def S_api_Info.beq (x y : S_api_Info) : Bool := (x.Les == y.Les) && ((S_api_Version.beq x.Head y.Head) && ((S_api_Version.beq x.Tail y.Tail) && ((x.Born == y.Born) && true)))
theorem S_api_Info.beq_iff (x y : S_api_Info) : S_api_Info.beq x y = true ↔ x = y := by
  cases x; cases y; simp [S_api_Info.beq, str_beq, S_api_Version.beq_iff, S_api_Version.beq_iff]

structure S_api_Entry where
  Version : S_api_Version
  Remove : Bool
  Errno : Int
  Name : ByteArray
  Client : Int
  Number : Int
def S_api_Entry.row (x : S_api_Entry) : List Value := [.int .i64 x.Version.Epoch, .int .i64 x.Version.N, .bool x.Remove, .int .i64 x.Errno, .string x.Name, .int .i64 x.Client, .int .i64 x.Number]
def dS_api_Entry : S_api_Entry := S_api_Entry.mk dS_api_Version false 0 (ByteArray.mk #[]) 0 0
def S_api_Entry.beq (x y : S_api_Entry) : Bool := (S_api_Version.beq x.Version y.Version) && ((x.Remove == y.Remove) && ((x.Errno == y.Errno) && ((x.Name == y.Name) && ((x.Client == y.Client) && ((x.Number == y.Number) && true)))))
theorem S_api_Entry.beq_iff (x y : S_api_Entry) : S_api_Entry.beq x y = true ↔ x = y := by
  cases x; cases y; simp [S_api_Entry.beq, str_beq, S_api_Version.beq_iff]

structure S_api_Last where
  Client : Int
  Number : Int
  Errno : Int
  Version : S_api_Version
def S_api_Last.row (x : S_api_Last) : List Value := [.int .i64 x.Client, .int .i64 x.Number, .int .i64 x.Errno, .int .i64 x.Version.Epoch, .int .i64 x.Version.N]
def dS_api_Last : S_api_Last := S_api_Last.mk 0 0 0 dS_api_Version
def S_api_Last.beq (x y : S_api_Last) : Bool := (x.Client == y.Client) && ((x.Number == y.Number) && ((x.Errno == y.Errno) && ((S_api_Version.beq x.Version y.Version) && true)))
theorem S_api_Last.beq_iff (x y : S_api_Last) : S_api_Last.beq x y = true ↔ x = y := by
  cases x; cases y; simp [S_api_Last.beq, str_beq, S_api_Version.beq_iff]

structure S_api_Item where
  Name : ByteArray
  Version : S_api_Version
  Crc : Int
def S_api_Item.row (x : S_api_Item) : List Value := [.string x.Name, .int .i64 x.Version.Epoch, .int .i64 x.Version.N, .int .u32 x.Crc]
def dS_api_Item : S_api_Item := S_api_Item.mk (ByteArray.mk #[]) dS_api_Version 0
def S_api_Item.beq (x y : S_api_Item) : Bool := (x.Name == y.Name) && ((S_api_Version.beq x.Version y.Version) && ((x.Crc == y.Crc) && true))
theorem S_api_Item.beq_iff (x y : S_api_Item) : S_api_Item.beq x y = true ↔ x = y := by
  cases x; cases y; simp [S_api_Item.beq, str_beq, S_api_Version.beq_iff]

structure S_sync_noCopy where
def S_sync_noCopy.row (x : S_sync_noCopy) : List Value := []
def dS_sync_noCopy : S_sync_noCopy := S_sync_noCopy.mk 
def S_sync_noCopy.beq (x y : S_sync_noCopy) : Bool := true
theorem S_sync_noCopy.beq_iff (x y : S_sync_noCopy) : S_sync_noCopy.beq x y = true ↔ x = y := by
  cases x; cases y; simp [S_sync_noCopy.beq]

structure S_atomic_noCopy where
def S_atomic_noCopy.row (x : S_atomic_noCopy) : List Value := []
def dS_atomic_noCopy : S_atomic_noCopy := S_atomic_noCopy.mk 
def S_atomic_noCopy.beq (x y : S_atomic_noCopy) : Bool := true
theorem S_atomic_noCopy.beq_iff (x y : S_atomic_noCopy) : S_atomic_noCopy.beq x y = true ↔ x = y := by
  cases x; cases y; simp [S_atomic_noCopy.beq]

structure S_atomic_Bool where
  __ : S_atomic_noCopy
  v : Int
def S_atomic_Bool.row (x : S_atomic_Bool) : List Value := [.int .u32 x.v]
def dS_atomic_Bool : S_atomic_Bool := S_atomic_Bool.mk dS_atomic_noCopy 0
def S_atomic_Bool.beq (x y : S_atomic_Bool) : Bool := (S_atomic_noCopy.beq x.__ y.__) && ((x.v == y.v) && true)
theorem S_atomic_Bool.beq_iff (x y : S_atomic_Bool) : S_atomic_Bool.beq x y = true ↔ x = y := by
  cases x; cases y; simp [S_atomic_Bool.beq, str_beq, S_atomic_noCopy.beq_iff]

structure S_sync_Mutex where
  state : Int
  sema : Int
def S_sync_Mutex.row (x : S_sync_Mutex) : List Value := [.int .i32 x.state, .int .u32 x.sema]
def dS_sync_Mutex : S_sync_Mutex := S_sync_Mutex.mk 0 0
def S_sync_Mutex.beq (x y : S_sync_Mutex) : Bool := (x.state == y.state) && ((x.sema == y.sema) && true)
theorem S_sync_Mutex.beq_iff (x y : S_sync_Mutex) : S_sync_Mutex.beq x y = true ↔ x = y := by
  cases x; cases y; simp [S_sync_Mutex.beq, str_beq]

structure S_sync_Mutex' where
  __ : S_sync_noCopy
  mu : S_sync_Mutex
def S_sync_Mutex'.row (x : S_sync_Mutex') : List Value := [.int .i32 x.mu.state, .int .u32 x.mu.sema]
def dS_sync_Mutex' : S_sync_Mutex' := S_sync_Mutex'.mk dS_sync_noCopy dS_sync_Mutex
def S_sync_Mutex'.beq (x y : S_sync_Mutex') : Bool := (S_sync_noCopy.beq x.__ y.__) && ((S_sync_Mutex.beq x.mu y.mu) && true)
theorem S_sync_Mutex'.beq_iff (x y : S_sync_Mutex') : S_sync_Mutex'.beq x y = true ↔ x = y := by
  cases x; cases y; simp [S_sync_Mutex'.beq, str_beq, S_sync_noCopy.beq_iff, S_sync_Mutex.beq_iff]

structure S_sync_Once where
  __ : S_sync_noCopy
  done : S_atomic_Bool
  m : S_sync_Mutex'
def S_sync_Once.row (x : S_sync_Once) : List Value := [.int .u32 x.done.v, .int .i32 x.m.mu.state, .int .u32 x.m.mu.sema]
def dS_sync_Once : S_sync_Once := S_sync_Once.mk dS_sync_noCopy dS_atomic_Bool dS_sync_Mutex'
def S_sync_Once.beq (x y : S_sync_Once) : Bool := (S_sync_noCopy.beq x.__ y.__) && ((S_atomic_Bool.beq x.done y.done) && ((S_sync_Mutex'.beq x.m y.m) && true))
theorem S_sync_Once.beq_iff (x y : S_sync_Once) : S_sync_Once.beq x y = true ↔ x = y := by
  cases x; cases y; simp [S_sync_Once.beq, str_beq, S_sync_noCopy.beq_iff, S_atomic_Bool.beq_iff, S_sync_Mutex'.beq_iff]

structure S_atomic_align64 where
def S_atomic_align64.row (x : S_atomic_align64) : List Value := []
def dS_atomic_align64 : S_atomic_align64 := S_atomic_align64.mk 
def S_atomic_align64.beq (x y : S_atomic_align64) : Bool := true
theorem S_atomic_align64.beq_iff (x y : S_atomic_align64) : S_atomic_align64.beq x y = true ↔ x = y := by
  cases x; cases y; simp [S_atomic_align64.beq]

structure S_atomic_Int64 where
  __ : S_atomic_noCopy
  __i : S_atomic_align64
  v : Int
def S_atomic_Int64.row (x : S_atomic_Int64) : List Value := [.int .i64 x.v]
def dS_atomic_Int64 : S_atomic_Int64 := S_atomic_Int64.mk dS_atomic_noCopy dS_atomic_align64 0
def S_atomic_Int64.beq (x y : S_atomic_Int64) : Bool := (S_atomic_noCopy.beq x.__ y.__) && ((S_atomic_align64.beq x.__i y.__i) && ((x.v == y.v) && true))
theorem S_atomic_Int64.beq_iff (x y : S_atomic_Int64) : S_atomic_Int64.beq x y = true ↔ x = y := by
  cases x; cases y; simp [S_atomic_Int64.beq, str_beq, S_atomic_noCopy.beq_iff, S_atomic_align64.beq_iff]

structure S_digest_Engine where
  once : S_sync_Once
  table : List Int
  calls : S_atomic_Int64
def S_digest_Engine.row (x : S_digest_Engine) : List Value := ([.int .u32 x.once.done.v, .int .i32 x.once.m.mu.state, .int .u32 x.once.m.mu.sema] : List Value) ++ (aU32 x.table ++ (([.int .i64 x.calls.v] : List Value)))
def dS_digest_Engine : S_digest_Engine := S_digest_Engine.mk dS_sync_Once (List.replicate 256 0) dS_atomic_Int64
def S_digest_Engine.beq (x y : S_digest_Engine) : Bool := (S_sync_Once.beq x.once y.once) && ((x.table == y.table) && ((S_atomic_Int64.beq x.calls y.calls) && true))
theorem S_digest_Engine.beq_iff (x y : S_digest_Engine) : S_digest_Engine.beq x y = true ↔ x = y := by
  cases x; cases y; simp [S_digest_Engine.beq, str_beq, S_sync_Once.beq_iff, S_atomic_Int64.beq_iff]

@[reducible] def r5 (o : Option Addr) (l : List UInt8) : Ent := .rd o 1 (List.map rB l)
@[reducible] def o5 (o : Option Addr) (c : Nat) (l : List UInt8) : Ent := .osl o c 5 1 (List.map rB l)
@[reducible] def r9 (o : Option Addr) (l : List ByteArray) : Ent := .rd o 1 (List.map rS l)
@[reducible] def o9 (o : Option Addr) (c : Nat) (l : List ByteArray) : Ent := .osl o c 9 1 (List.map rS l)
@[reducible] def r40 (o : Option Addr) (l : List S_api_Entry) : Ent := .rd o 7 (List.map S_api_Entry.row l)
@[reducible] def o40 (o : Option Addr) (c : Nat) (l : List S_api_Entry) : Ent := .osl o c 40 7 (List.map S_api_Entry.row l)
@[reducible] def r60 (o : Option Addr) (l : List S_api_Item) : Ent := .rd o 4 (List.map S_api_Item.row l)
@[reducible] def o60 (o : Option Addr) (c : Nat) (l : List S_api_Item) : Ent := .osl o c 60 4 (List.map S_api_Item.row l)
@[reducible] def r111 (o : Option Addr) (l : List S_api_Last) : Ent := .rd o 5 (List.map S_api_Last.row l)
@[reducible] def o111 (o : Option Addr) (c : Nat) (l : List S_api_Last) : Ent := .osl o c 111 5 (List.map S_api_Last.row l)

def m_slices_Clone___byte_byte_ (F : Nat) (a0 : List UInt8) : Option (List UInt8) :=
  grd (App (([] : List UInt8).length + a0.length) 1) (some (([] : List UInt8) ++ a0))

def m_recovery_Push (F : Nat) (a0_Kind : Int) (a0_From : S_api_Node) (a0_To : S_api_Node) (a0_Boot : Int) (a0_Epoch : Int) (a0_Pg : S_api_Pg) (a0_Client : Int) (a0_Number : Int) (a0_Ballot : Int) (a0_Slots_n : Nat) (a0_Incs_n : Nat) (a0_Changes_n : Nat) (a0_Info : S_api_Info) (a0_State_Les : Int) (a0_State_Tail : S_api_Version) (a0_State_Log : List S_api_Entry) (a0_State_Lasts : List S_api_Last) (a0_State_Items : List S_api_Item) (a0_Entry : S_api_Entry) (a0_Object_Name : ByteArray) (a0_Object_Version : S_api_Version) (a0_Object_Data : List UInt8) (a0_Op_Kind : Int) (a0_Op_Name : ByteArray) (a0_Op_Data : List UInt8) (a0_Op_Expect : S_api_Version) (a0_Items : List S_api_Item) (a0_Names : List ByteArray) (a0_Errno : Int) (a1 : Int) (a2 : Int) (a3_Name : ByteArray) (a3_Version : S_api_Version) (a3_Data : List UInt8) (a4 : Int) : Option (Int × S_api_Node × S_api_Node × Int × Int × S_api_Pg × Int × Int × Int × S_api_Info × Int × S_api_Version × S_api_Entry × ByteArray × S_api_Version × List UInt8 × Int × ByteArray × S_api_Version × Int) :=
  (bif a4 == 0 then (m_slices_Clone___byte_byte_ F a3_Data).bind (fun y6 => some (25, (S_api_Node.mk 2 a1), a0_From, a2, a0_Epoch, a0_Pg, 0, 0, 0, (S_api_Info.mk 0 (S_api_Version.mk 0 0) (S_api_Version.mk 0 0) 0), 0, (S_api_Version.mk 0 0), (S_api_Entry.mk (S_api_Version.mk 0 0) false 0 (ByteArray.mk #[]) 0 0), a3_Name, a3_Version, y6, 0, (ByteArray.mk #[]), (S_api_Version.mk 0 0), a4)) else some (25, (S_api_Node.mk 2 a1), a0_From, a2, a0_Epoch, a0_Pg, 0, 0, 0, (S_api_Info.mk 0 (S_api_Version.mk 0 0) (S_api_Version.mk 0 0) 0), 0, (S_api_Version.mk 0 0), (S_api_Entry.mk (S_api_Version.mk 0 0) false 0 (ByteArray.mk #[]) 0 0), (ByteArray.mk #[]), (S_api_Version.mk 0 0), ([] : List UInt8), 0, (ByteArray.mk #[]), (S_api_Version.mk 0 0), a4))

def m_tholeref19_Push (F : Nat) (a0_Kind : Int) (a0_From : S_api_Node) (a0_To : S_api_Node) (a0_Boot : Int) (a0_Epoch : Int) (a0_Pg : S_api_Pg) (a0_Client : Int) (a0_Number : Int) (a0_Ballot : Int) (a0_Slots_n : Nat) (a0_Incs_n : Nat) (a0_Changes_n : Nat) (a0_Info : S_api_Info) (a0_State_Les : Int) (a0_State_Tail : S_api_Version) (a0_State_Log : List S_api_Entry) (a0_State_Lasts : List S_api_Last) (a0_State_Items : List S_api_Item) (a0_Entry : S_api_Entry) (a0_Object_Name : ByteArray) (a0_Object_Version : S_api_Version) (a0_Object_Data : List UInt8) (a0_Op_Kind : Int) (a0_Op_Name : ByteArray) (a0_Op_Data : List UInt8) (a0_Op_Expect : S_api_Version) (a0_Items : List S_api_Item) (a0_Names : List ByteArray) (a0_Errno : Int) (a1 : Int) (a2 : Int) (a3_Name : ByteArray) (a3_Version : S_api_Version) (a3_Data : List UInt8) (a4 : Int) : Option (Int × S_api_Node × S_api_Node × Int × Int × S_api_Pg × Int × Int × Int × S_api_Info × Int × S_api_Version × S_api_Entry × ByteArray × S_api_Version × List UInt8 × Int × ByteArray × S_api_Version × Int) :=
  (bif a4 == 0 then grd (App (([] : List UInt8).length + a3_Data.length) 1) (some (25, (S_api_Node.mk 2 a1), a0_From, a2, a0_Epoch, a0_Pg, 0, 0, 0, (S_api_Info.mk 0 (S_api_Version.mk 0 0) (S_api_Version.mk 0 0) 0), 0, (S_api_Version.mk 0 0), (S_api_Entry.mk (S_api_Version.mk 0 0) false 0 (ByteArray.mk #[]) 0 0), a3_Name, a3_Version, (([] : List UInt8) ++ a3_Data), 0, (ByteArray.mk #[]), (S_api_Version.mk 0 0), a4)) else some (25, (S_api_Node.mk 2 a1), a0_From, a2, a0_Epoch, a0_Pg, 0, 0, 0, (S_api_Info.mk 0 (S_api_Version.mk 0 0) (S_api_Version.mk 0 0) 0), 0, (S_api_Version.mk 0 0), (S_api_Entry.mk (S_api_Version.mk 0 0) false 0 (ByteArray.mk #[]) 0 0), (ByteArray.mk #[]), (S_api_Version.mk 0 0), ([] : List UInt8), 0, (ByteArray.mk #[]), (S_api_Version.mk 0 0), a4))

def m_tholeref02_Int (F : Nat) (a1 : Int) : Option (List UInt8) :=
  grd ((8 : Int) ≤ 9223372036854775807) (loopC (fun (nx32 : List UInt8 → Option (List UInt8)) (v6_1 : Nat) (l20000_1 : List UInt8) => grd (I64 (8 * ((v6_1 : Nat) : Int))) (grd (0 ≤ (8 * ((v6_1 : Nat) : Int))) (grd (0 ≤ (IntKind.u8.wrap (Int.fdiv a1 (2 ^ (min (Int.toNat (8 * ((v6_1 : Nat) : Int))) 64)))) ∧ (IntKind.u8.wrap (Int.fdiv a1 (2 ^ (min (Int.toNat (8 * ((v6_1 : Nat) : Int))) 64)))) < 256) (grd (App (l20000_1.length + [(UInt8.ofNat (Int.toNat (IntKind.u8.wrap (Int.fdiv a1 (2 ^ (min (Int.toNat (8 * ((v6_1 : Nat) : Int))) 64))))))].length) 1) (nx32 (l20000_1 ++ [(UInt8.ofNat (Int.toNat (IntKind.u8.wrap (Int.fdiv a1 (2 ^ (min (Int.toNat (8 * ((v6_1 : Nat) : Int))) 64))))))])))))) (fun (v6_1 : Nat) (l20000_1 : List UInt8) => some l20000_1) (Int.toNat (8 - ((0 : Nat) : Int))) 0 ([] : List UInt8))

def m_tholeref02_Int_2 (F : Nat) (a0 : List UInt8) (a1 : Int) : Option (List UInt8) :=
  grd ((8 : Int) ≤ 9223372036854775807) (loopC (fun (nx32 : List UInt8 → Option (List UInt8)) (v6_1 : Nat) (l1_1 : List UInt8) => grd (I64 (8 * ((v6_1 : Nat) : Int))) (grd (0 ≤ (8 * ((v6_1 : Nat) : Int))) (grd (0 ≤ (IntKind.u8.wrap (Int.fdiv a1 (2 ^ (min (Int.toNat (8 * ((v6_1 : Nat) : Int))) 64)))) ∧ (IntKind.u8.wrap (Int.fdiv a1 (2 ^ (min (Int.toNat (8 * ((v6_1 : Nat) : Int))) 64)))) < 256) (grd (App (l1_1.length + [(UInt8.ofNat (Int.toNat (IntKind.u8.wrap (Int.fdiv a1 (2 ^ (min (Int.toNat (8 * ((v6_1 : Nat) : Int))) 64))))))].length) 1) (nx32 (l1_1 ++ [(UInt8.ofNat (Int.toNat (IntKind.u8.wrap (Int.fdiv a1 (2 ^ (min (Int.toNat (8 * ((v6_1 : Nat) : Int))) 64))))))])))))) (fun (v6_1 : Nat) (l1_1 : List UInt8) => some l1_1) (Int.toNat (8 - ((0 : Nat) : Int))) 0 a0)

def m_tholeref02_PutNode (F : Nat) (a0 : List UInt8) (a1 : S_api_Node) : Option (List UInt8) :=
  (m_tholeref02_Int_2 F a0 a1.Kind).bind (fun y3 => (m_tholeref02_Int_2 F y3 a1.Id).bind (fun y9 => some y9))

def m_tholeref02_PutPg (F : Nat) (a0 : List UInt8) (a1 : S_api_Pg) : Option (List UInt8) :=
  (m_tholeref02_Int_2 F a0 a1.Pool).bind (fun y3 => (m_tholeref02_Int_2 F y3 a1.Seed).bind (fun y9 => some y9))

def m_tholeref02_Word (F : Nat) (a0 : List UInt8) (a1 : Int) : Option (List UInt8) :=
  grd ((4 : Int) ≤ 9223372036854775807) (loopC (fun (nx32 : List UInt8 → Option (List UInt8)) (v6_1 : Nat) (l1_1 : List UInt8) => grd (I64 (8 * ((v6_1 : Nat) : Int))) (grd (0 ≤ (8 * ((v6_1 : Nat) : Int))) (grd (0 ≤ (IntKind.u8.wrap (Int.fdiv a1 (2 ^ (min (Int.toNat (8 * ((v6_1 : Nat) : Int))) 32)))) ∧ (IntKind.u8.wrap (Int.fdiv a1 (2 ^ (min (Int.toNat (8 * ((v6_1 : Nat) : Int))) 32)))) < 256) (grd (App (l1_1.length + [(UInt8.ofNat (Int.toNat (IntKind.u8.wrap (Int.fdiv a1 (2 ^ (min (Int.toNat (8 * ((v6_1 : Nat) : Int))) 32))))))].length) 1) (nx32 (l1_1 ++ [(UInt8.ofNat (Int.toNat (IntKind.u8.wrap (Int.fdiv a1 (2 ^ (min (Int.toNat (8 * ((v6_1 : Nat) : Int))) 32))))))])))))) (fun (v6_1 : Nat) (l1_1 : List UInt8) => some l1_1) (Int.toNat (4 - ((0 : Nat) : Int))) 0 a0)

def m_tholeref02_Count (F : Nat) (a0 : List UInt8) (a1 : Int) : Option (List UInt8) :=
  (m_tholeref02_Word F a0 (IntKind.u32.wrap a1)).bind (fun y3 => some y3)

def m_tholeref02_PutVersion (F : Nat) (a0 : List UInt8) (a1 : S_api_Version) : Option (List UInt8) :=
  (m_tholeref02_Int_2 F a0 a1.Epoch).bind (fun y3 => (m_tholeref02_Int_2 F y3 a1.N).bind (fun y9 => some y9))

def m_tholeref02_PutInfo (F : Nat) (a0 : List UInt8) (a1 : S_api_Info) : Option (List UInt8) :=
  (m_tholeref02_Int_2 F a0 a1.Les).bind (fun y3 => (m_tholeref02_PutVersion F y3 (S_api_Version.mk a1.Head.Epoch a1.Head.N)).bind (fun y9 => (m_tholeref02_PutVersion F y9 (S_api_Version.mk a1.Tail.Epoch a1.Tail.N)).bind (fun y15 => (m_tholeref02_Int_2 F y15 a1.Born).bind (fun y21 => some y21))))

def m_tholeref02_PutState (F : Nat) (a0 : List UInt8) (a1_Les : Int) (a1_Tail : S_api_Version) : Option (List UInt8) :=
  (m_tholeref02_Int_2 F a0 a1_Les).bind (fun y3 => (m_tholeref02_PutVersion F y3 a1_Tail).bind (fun y9 => (m_tholeref02_Count F y9 0).bind (fun y15 => (m_tholeref02_Count F y15 0).bind (fun y24 => (m_tholeref02_Count F y24 0).bind (fun y33 => some y33)))))

def m_tholeref02_Bool (F : Nat) (a0 : List UInt8) (a1 : Bool) : Option (List UInt8) :=
  (bif a1 then grd (App (a0.length + [(1 : UInt8)].length) 1) (some (a0 ++ [(1 : UInt8)])) else grd (App (a0.length + [(0 : UInt8)].length) 1) (some (a0 ++ [(0 : UInt8)])))

def m_tholeref02_Bytes (F : Nat) (a0 : List UInt8) (a1 : List UInt8) : Option (List UInt8) :=
  (m_tholeref02_Count F a0 ((a1.length : Nat) : Int)).bind (fun y3 => grd (App (y3.length + a1.length) 1) (some (y3 ++ a1)))

def m_tholeref02_PutEntry (F : Nat) (a0 : List UInt8) (a1 : S_api_Entry) : Option (List UInt8) :=
  (m_tholeref02_PutVersion F a0 a1.Version).bind (fun y3 => (m_tholeref02_Bool F y3 a1.Remove).bind (fun y9 => (m_tholeref02_Int_2 F y9 a1.Errno).bind (fun y15 => (m_tholeref02_Bytes F y15 a1.Name.data.toList).bind (fun y21 => (m_tholeref02_Int_2 F y21 a1.Client).bind (fun y27 => (m_tholeref02_Int_2 F y27 a1.Number).bind (fun y33 => some y33))))))

def m_tholeref02_PutObject (F : Nat) (a0 : List UInt8) (a1_Name : ByteArray) (a1_Version : S_api_Version) (a1_Data : List UInt8) : Option (List UInt8) :=
  (m_tholeref02_Bytes F a0 a1_Name.data.toList).bind (fun y3 => (m_tholeref02_PutVersion F y3 a1_Version).bind (fun y9 => (m_tholeref02_Bytes F y9 a1_Data).bind (fun y15 => some y15)))

def m_tholeref02_Bytes_2 (F : Nat) (a0 : List UInt8) : Option (List UInt8) :=
  (m_tholeref02_Count F a0 0).bind (fun y3 => grd (App (y3.length + ([] : List UInt8).length) 1) (some (y3 ++ ([] : List UInt8))))

def m_tholeref02_PutOp (F : Nat) (a0 : List UInt8) (a1_Kind : Int) (a1_Name : ByteArray) (a1_Expect : S_api_Version) : Option (List UInt8) :=
  (m_tholeref02_Int_2 F a0 a1_Kind).bind (fun y3 => (m_tholeref02_Bytes F y3 a1_Name.data.toList).bind (fun y9 => (m_tholeref02_Bytes_2 F y9).bind (fun y15 => (m_tholeref02_PutVersion F y15 (S_api_Version.mk a1_Expect.Epoch a1_Expect.N)).bind (fun y21 => some y21))))

def m_tholeref02_PutMsg (F : Nat) (a1_Kind : Int) (a1_From : S_api_Node) (a1_To : S_api_Node) (a1_Boot : Int) (a1_Epoch : Int) (a1_Pg : S_api_Pg) (a1_Client : Int) (a1_Number : Int) (a1_Ballot : Int) (a1_Info : S_api_Info) (a1_State_Les : Int) (a1_State_Tail : S_api_Version) (a1_Entry : S_api_Entry) (a1_Object_Name : ByteArray) (a1_Object_Version : S_api_Version) (a1_Object_Data : List UInt8) (a1_Op_Kind : Int) (a1_Op_Name : ByteArray) (a1_Op_Expect : S_api_Version) (a1_Errno : Int) : Option (List UInt8) :=
  (m_tholeref02_Int F a1_Kind).bind (fun y3 => (m_tholeref02_PutNode F y3 (S_api_Node.mk a1_From.Kind a1_From.Id)).bind (fun y9 => (m_tholeref02_PutNode F y9 (S_api_Node.mk a1_To.Kind a1_To.Id)).bind (fun y15 => (m_tholeref02_Int_2 F y15 a1_Boot).bind (fun y21 => (m_tholeref02_Int_2 F y21 a1_Epoch).bind (fun y27 => (m_tholeref02_PutPg F y27 (S_api_Pg.mk a1_Pg.Pool a1_Pg.Seed)).bind (fun y33 => (m_tholeref02_Int_2 F y33 a1_Client).bind (fun y39 => (m_tholeref02_Int_2 F y39 a1_Number).bind (fun y45 => (m_tholeref02_Int_2 F y45 a1_Ballot).bind (fun y51 => (m_tholeref02_Count F y51 0).bind (fun y57 => (m_tholeref02_Count F y57 0).bind (fun y66 => (m_tholeref02_Count F y66 0).bind (fun y75 => (m_tholeref02_PutInfo F y75 (S_api_Info.mk a1_Info.Les (S_api_Version.mk a1_Info.Head.Epoch a1_Info.Head.N) (S_api_Version.mk a1_Info.Tail.Epoch a1_Info.Tail.N) a1_Info.Born)).bind (fun y84 => (m_tholeref02_PutState F y84 a1_State_Les (S_api_Version.mk a1_State_Tail.Epoch a1_State_Tail.N)).bind (fun y90 => (m_tholeref02_PutEntry F y90 (S_api_Entry.mk (S_api_Version.mk a1_Entry.Version.Epoch a1_Entry.Version.N) a1_Entry.Remove a1_Entry.Errno a1_Entry.Name a1_Entry.Client a1_Entry.Number)).bind (fun y96 => (m_tholeref02_PutObject F y96 a1_Object_Name (S_api_Version.mk a1_Object_Version.Epoch a1_Object_Version.N) a1_Object_Data).bind (fun y102 => (m_tholeref02_PutOp F y102 a1_Op_Kind a1_Op_Name (S_api_Version.mk a1_Op_Expect.Epoch a1_Op_Expect.N)).bind (fun y108 => (m_tholeref02_Count F y108 0).bind (fun y114 => (m_tholeref02_Count F y114 0).bind (fun y123 => (m_tholeref02_Int_2 F y123 a1_Errno).bind (fun y132 => some y132))))))))))))))))))))

def m_tholeref02_Msg (F : Nat) (a0_Kind : Int) (a0_From : S_api_Node) (a0_To : S_api_Node) (a0_Boot : Int) (a0_Epoch : Int) (a0_Pg : S_api_Pg) (a0_Client : Int) (a0_Number : Int) (a0_Ballot : Int) (a0_Info : S_api_Info) (a0_State_Les : Int) (a0_State_Tail : S_api_Version) (a0_Entry : S_api_Entry) (a0_Object_Name : ByteArray) (a0_Object_Version : S_api_Version) (a0_Object_Data : List UInt8) (a0_Op_Kind : Int) (a0_Op_Name : ByteArray) (a0_Op_Expect : S_api_Version) (a0_Errno : Int) : Option (List UInt8) :=
  (m_tholeref02_PutMsg F a0_Kind a0_From a0_To a0_Boot a0_Epoch a0_Pg a0_Client a0_Number a0_Ballot a0_Info a0_State_Les a0_State_Tail a0_Entry a0_Object_Name a0_Object_Version a0_Object_Data a0_Op_Kind a0_Op_Name a0_Op_Expect a0_Errno).bind (fun y3 => some y3)

def m_tholeref01_Crc (F : Nat) : Option (Unit) :=
  some ()

def m_slices_IndexFunc___api_Entry_api_Entry_ (F : Nat) : Option (Unit) :=
  some ()

def m_slices_ContainsFunc___api_Entry_api_Entry_ (F : Nat) : Option (Unit) :=
  (m_slices_IndexFunc___api_Entry_api_Entry_ F).bind (fun y3 => some ())

def m_missing_has (F : Nat) : Option (Unit) :=
  (m_slices_ContainsFunc___api_Entry_api_Entry_ F).bind (fun y3 => some ())

def m_missing_Common_1 (F : Nat) : Option (Unit) :=
  (m_missing_has F).bind (fun y3 => some ())

def m_missing_Common (F : Nat) : Option (Unit) :=
  (m_missing_Common_1 F).bind (fun y5 => some ())

def m_missing_Diff (F : Nat) : Option (Unit) :=
  (m_missing_Common F).bind (fun y3 => some ())

def m_pglog_Find (F : Nat) : Option (Unit) :=
  some ()

def m_recovery_catalogues (F : Nat) : Option (Unit) :=
  (m_pglog_Find F).bind (fun y8 => some ())

def m_pglog_Copy (F : Nat) : Option (Unit) :=
  some ()

def m_slices_Clone___api_Item_api_Item_ (F : Nat) : Option (Unit) :=
  some ()

def m_recovery_New (F : Nat) : Option (Unit) :=
  (m_missing_Diff F).bind (fun y3 => (m_recovery_catalogues F).bind (fun y7 => (m_pglog_Copy F).bind (fun y13 => (m_slices_Clone___api_Item_api_Item_ F).bind (fun y25 => some ()))))

def m___recovery_Puller__is (F : Nat) : Option (Unit) :=
  some ()

def m___recovery_Puller__Done (F : Nat) : Option (Unit) :=
  (m___recovery_Puller__is F).bind (fun y3 => some ())

def m___recovery_Puller__Left (F : Nat) : Option (Unit) :=
  (m___recovery_Puller__is F).bind (fun y3 => some ())

def m_recovery_New_1 (F : Nat) : Option (Unit) :=
  some ()

def m___recovery_Puller__Next (F : Nat) : Option (Unit) :=
  (m___recovery_Puller__Left F).bind (fun y3 => (m_recovery_New_1 F).bind (fun y7 => some ()))

def m_slices_Clone___byte_byte__2 (F : Nat) : Option (Unit) :=
  some ()

def m_recovery_Push_2 (F : Nat) : Option (Unit) :=
  (m_slices_Clone___byte_byte__2 F).bind (fun y5 => some ())

def m_digest_New (F : Nat) : Option (Unit) :=
  some ()

def m___digest_Engine__make (F : Nat) (a0 : S_digest_Engine) : Option (S_digest_Engine) :=
  grd ((256 : Int) ≤ 9223372036854775807) (loopC (fun (nx166 : List Int → Option (S_digest_Engine)) (v4_1 : Nat) (c1_3_1 : List Int) => grd ((8 : Int) ≤ 9223372036854775807) (loopC (fun (nx153 : Int → Option (S_digest_Engine)) (v9_10 : Nat) (v3_10 : Int) => (bif (iand .u32 v3_10 1) == 1 then nx153 (ixor .u32 (Int.fdiv v3_10 (2 ^ 1)) 2197175160) else nx153 (Int.fdiv v3_10 (2 ^ 1)))) (fun (v9_10 : Nat) (v3_10 : Int) => grd (v4_1 < 256) (grd (v4_1 < c1_3_1.length) (nx166 (c1_3_1.set v4_1 v3_10)))) (Int.toNat (8 - ((0 : Nat) : Int))) 0 (IntKind.u32.wrap ((v4_1 : Nat) : Int)))) (fun (v4_1 : Nat) (c1_3_1 : List Int) => some (S_digest_Engine.mk a0.once c1_3_1 a0.calls)) (Int.toNat (256 - ((0 : Nat) : Int))) 0 a0.table)

/-- What sync.Once.Do makes of an engine's table. -/
def m_once (F : Nat) (d st se : Int) (L : List Int) (c : Int) : Option (List Int) :=
  grd (st = 0) (grd (L.length = 256) (bif d == 1 then some L else grd (d = 0) ((m___digest_Engine__make F (S_digest_Engine.mk (S_sync_Once.mk S_sync_noCopy.mk (S_atomic_Bool.mk S_atomic_noCopy.mk 0) (S_sync_Mutex'.mk S_sync_noCopy.mk (S_sync_Mutex.mk 1 se))) L (S_atomic_Int64.mk S_atomic_noCopy.mk S_atomic_align64.mk c))).bind (fun y => grd (y.once.done.v = 0 ∧ y.once.m.mu.state = 1 ∧ y.once.m.mu.sema = se ∧ y.calls.v = c ∧ y.table.length = 256) (some y.table)))))

def m___digest_Engine__Crc (F : Nat) : Option (List Int × Int) :=
  (m_once F 0 0 0 (List.replicate 256 0) 1).bind (fun y6 => grd (135 < y6.length) (some (y6, (ixor .u32 4294967295 (ixor .u32 16777215 (y6.getD 135 0))))))

def m___recovery_Puller__Take (F : Nat) : Option (Unit) :=
  (m___recovery_Puller__Left F).bind (fun y3 => (m_digest_New F).bind (fun y18 => (m___digest_Engine__Crc F).bind (fun y21 => grd ((y21.2 != 2839306131) = false) ((m_slices_Clone___byte_byte__2 F).bind (fun y26 => some ())))))

def m___recovery_Puller__is_2 (F : Nat) : Option (Unit) :=
  some ()

def m___recovery_Puller__Done_2 (F : Nat) : Option (Unit) :=
  (m___recovery_Puller__is_2 F).bind (fun y3 => some ())

def m___recovery_Puller__Watermark (F : Nat) : Option (Unit) :=
  (m___recovery_Puller__is_2 F).bind (fun y3 => some ())

def m___recovery_Puller__Objects (F : Nat) : Option (Unit) :=
  (m___recovery_Puller__is_2 F).bind (fun y3 => (m_slices_Clone___byte_byte__2 F).bind (fun y10 => some ()))

def m_tholelaw19_lives (F : Nat) : Option (Unit) :=
  (m_tholeref01_Crc F).bind (fun y3 => (m_recovery_New F).bind (fun y6 => (m___recovery_Puller__Done F).bind (fun y20 => (m___recovery_Puller__Left F).bind (fun y22 => (m___recovery_Puller__Next F).bind (fun y25 => (m_recovery_Push_2 F).bind (fun y31 => (m___recovery_Puller__Take F).bind (fun y39 => (m___recovery_Puller__Done_2 F).bind (fun y48 => (m___recovery_Puller__Watermark F).bind (fun y50 => (m___recovery_Puller__Objects F).bind (fun y52 => some ()))))))))))

def m_tholelaw19_RecoveryPushes (F : Nat) (a0_Kind : Int) (a0_From : S_api_Node) (a0_To : S_api_Node) (a0_Boot : Int) (a0_Epoch : Int) (a0_Pg : S_api_Pg) (a0_Client : Int) (a0_Number : Int) (a0_Ballot : Int) (a0_Slots_n : Nat) (a0_Incs_n : Nat) (a0_Changes_n : Nat) (a0_Info : S_api_Info) (a0_State_Les : Int) (a0_State_Tail : S_api_Version) (a0_State_Log : List S_api_Entry) (a0_State_Lasts : List S_api_Last) (a0_State_Items : List S_api_Item) (a0_Entry : S_api_Entry) (a0_Object_Name : ByteArray) (a0_Object_Version : S_api_Version) (a0_Object_Data : List UInt8) (a0_Op_Kind : Int) (a0_Op_Name : ByteArray) (a0_Op_Data : List UInt8) (a0_Op_Expect : S_api_Version) (a0_Items : List S_api_Item) (a0_Names : List ByteArray) (a0_Errno : Int) (a1_Name : ByteArray) (a1_Version : S_api_Version) (a1_Data : List UInt8) (a2_0 : Int) (a2_1 : Int) (a2_2 : Int) : Option (Bool) :=
  (m_recovery_Push F a0_Kind a0_From a0_To a0_Boot a0_Epoch a0_Pg a0_Client a0_Number a0_Ballot a0_Slots_n a0_Incs_n a0_Changes_n a0_Info a0_State_Les a0_State_Tail a0_State_Log a0_State_Lasts a0_State_Items a0_Entry a0_Object_Name a0_Object_Version a0_Object_Data a0_Op_Kind a0_Op_Name a0_Op_Data a0_Op_Expect a0_Items a0_Names a0_Errno a2_0 a2_1 a1_Name a1_Version a1_Data a2_2).bind (fun y3 => (m_tholeref19_Push F a0_Kind a0_From a0_To a0_Boot a0_Epoch a0_Pg a0_Client a0_Number a0_Ballot a0_Slots_n a0_Incs_n a0_Changes_n a0_Info a0_State_Les a0_State_Tail a0_State_Log a0_State_Lasts a0_State_Items a0_Entry a0_Object_Name a0_Object_Version a0_Object_Data a0_Op_Kind a0_Op_Name a0_Op_Data a0_Op_Expect a0_Items a0_Names a0_Errno a2_0 a2_1 a1_Name a1_Version a1_Data a2_2).bind (fun y9 => (m_tholeref02_Msg F y3.1 y3.2.1 y3.2.2.1 y3.2.2.2.1 y3.2.2.2.2.1 y3.2.2.2.2.2.1 y3.2.2.2.2.2.2.1 y3.2.2.2.2.2.2.2.1 y3.2.2.2.2.2.2.2.2.1 y3.2.2.2.2.2.2.2.2.2.1 y3.2.2.2.2.2.2.2.2.2.2.1 y3.2.2.2.2.2.2.2.2.2.2.2.1 y3.2.2.2.2.2.2.2.2.2.2.2.2.1 y3.2.2.2.2.2.2.2.2.2.2.2.2.2.1 y3.2.2.2.2.2.2.2.2.2.2.2.2.2.2.1 y3.2.2.2.2.2.2.2.2.2.2.2.2.2.2.2.1 y3.2.2.2.2.2.2.2.2.2.2.2.2.2.2.2.2.1 y3.2.2.2.2.2.2.2.2.2.2.2.2.2.2.2.2.2.1 y3.2.2.2.2.2.2.2.2.2.2.2.2.2.2.2.2.2.2.1 y3.2.2.2.2.2.2.2.2.2.2.2.2.2.2.2.2.2.2.2).bind (fun y15 => (m_tholeref02_Msg F y9.1 y9.2.1 y9.2.2.1 y9.2.2.2.1 y9.2.2.2.2.1 y9.2.2.2.2.2.1 y9.2.2.2.2.2.2.1 y9.2.2.2.2.2.2.2.1 y9.2.2.2.2.2.2.2.2.1 y9.2.2.2.2.2.2.2.2.2.1 y9.2.2.2.2.2.2.2.2.2.2.1 y9.2.2.2.2.2.2.2.2.2.2.2.1 y9.2.2.2.2.2.2.2.2.2.2.2.2.1 y9.2.2.2.2.2.2.2.2.2.2.2.2.2.1 y9.2.2.2.2.2.2.2.2.2.2.2.2.2.2.1 y9.2.2.2.2.2.2.2.2.2.2.2.2.2.2.2.1 y9.2.2.2.2.2.2.2.2.2.2.2.2.2.2.2.2.1 y9.2.2.2.2.2.2.2.2.2.2.2.2.2.2.2.2.2.1 y9.2.2.2.2.2.2.2.2.2.2.2.2.2.2.2.2.2.2.1 y9.2.2.2.2.2.2.2.2.2.2.2.2.2.2.2.2.2.2.2).bind (fun y19 => (bif (ByteArray.mk y15.toArray).toList == (ByteArray.mk y19.toArray).toList then (m_tholelaw19_lives F).bind (fun y24 => some true) else some false)))))

end Go.Proofs.YtmhejmkelhflmaaGreat
