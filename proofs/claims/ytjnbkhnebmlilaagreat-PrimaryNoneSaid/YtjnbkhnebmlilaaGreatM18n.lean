/-
  CHAPTER 18n: the models of its functions.
-/
import Derived.Test.YtjnbkhnebmlilaaGreatProg
import Derived.Test.YtjnbkhnebmlilaaGreatGxh
set_option linter.unusedVariables false
set_option linter.unusedSimpArgs false
set_option maxRecDepth 100000
namespace Go.Proofs.YtjnbkhnebmlilaaGreat
open Go Go.RowKit Sx

structure S_api_Node where
  Kind : Int
  Id : Int
def S_api_Node.row (x : S_api_Node) : List Value := [.int .i64 x.Kind, .int .i64 x.Id]
def dS_api_Node : S_api_Node := S_api_Node.mk 0 0
def S_api_Node.beq (x y : S_api_Node) : Bool := (x.Kind == y.Kind) && ((x.Id == y.Id) && true)
theorem S_api_Node.beq_iff (x y : S_api_Node) : S_api_Node.beq x y = true ↔ x = y := by
  cases x; cases y; simp [S_api_Node.beq, str_beq]

structure S_api_Pg where
  Pool : Int
  Seed : Int
def S_api_Pg.row (x : S_api_Pg) : List Value := [.int .i64 x.Pool, .int .i64 x.Seed]
def dS_api_Pg : S_api_Pg := S_api_Pg.mk 0 0
def S_api_Pg.beq (x y : S_api_Pg) : Bool := (x.Pool == y.Pool) && ((x.Seed == y.Seed) && true)
theorem S_api_Pg.beq_iff (x y : S_api_Pg) : S_api_Pg.beq x y = true ↔ x = y := by
  cases x; cases y; simp [S_api_Pg.beq, str_beq]

structure S_api_Version where
  Epoch : Int
  N : Int
def S_api_Version.row (x : S_api_Version) : List Value := [.int .i64 x.Epoch, .int .i64 x.N]
def dS_api_Version : S_api_Version := S_api_Version.mk 0 0
def S_api_Version.beq (x y : S_api_Version) : Bool := (x.Epoch == y.Epoch) && ((x.N == y.N) && true)
theorem S_api_Version.beq_iff (x y : S_api_Version) : S_api_Version.beq x y = true ↔ x = y := by
  cases x; cases y; simp [S_api_Version.beq, str_beq]

structure S_api_Info where
  Les : Int
  Head : S_api_Version
  Tail : S_api_Version
  Born : Int
def S_api_Info.row (x : S_api_Info) : List Value := [.int .i64 x.Les, .int .i64 x.Head.Epoch, .int .i64 x.Head.N, .int .i64 x.Tail.Epoch, .int .i64 x.Tail.N, .int .i64 x.Born]
def dS_api_Info : S_api_Info := S_api_Info.mk 0 dS_api_Version dS_api_Version 0
def S_api_Info.beq (x y : S_api_Info) : Bool := (x.Les == y.Les) && ((S_api_Version.beq x.Head y.Head) && ((S_api_Version.beq x.Tail y.Tail) && ((x.Born == y.Born) && true)))
theorem S_api_Info.beq_iff (x y : S_api_Info) : S_api_Info.beq x y = true ↔ x = y := by
  cases x; cases y; simp [S_api_Info.beq, str_beq, S_api_Version.beq_iff, S_api_Version.beq_iff]

structure S_api_Entry where
  Version : S_api_Version
  Remove : Bool
  Errno : Int
  Name : ByteArray
  Client : Int
  Number : Int
def S_api_Entry.row (x : S_api_Entry) : List Value := [.int .i64 x.Version.Epoch, .int .i64 x.Version.N, .bool x.Remove, .int .i64 x.Errno, .string x.Name, .int .i64 x.Client, .int .i64 x.Number]
def dS_api_Entry : S_api_Entry := S_api_Entry.mk dS_api_Version false 0 (ByteArray.mk #[]) 0 0
def S_api_Entry.beq (x y : S_api_Entry) : Bool := (S_api_Version.beq x.Version y.Version) && ((x.Remove == y.Remove) && ((x.Errno == y.Errno) && ((x.Name == y.Name) && ((x.Client == y.Client) && ((x.Number == y.Number) && true)))))
theorem S_api_Entry.beq_iff (x y : S_api_Entry) : S_api_Entry.beq x y = true ↔ x = y := by
  cases x; cases y; simp [S_api_Entry.beq, str_beq, S_api_Version.beq_iff]

structure S_api_Last where
  Client : Int
  Number : Int
  Errno : Int
  Version : S_api_Version
def S_api_Last.row (x : S_api_Last) : List Value := [.int .i64 x.Client, .int .i64 x.Number, .int .i64 x.Errno, .int .i64 x.Version.Epoch, .int .i64 x.Version.N]
def dS_api_Last : S_api_Last := S_api_Last.mk 0 0 0 dS_api_Version
def S_api_Last.beq (x y : S_api_Last) : Bool := (x.Client == y.Client) && ((x.Number == y.Number) && ((x.Errno == y.Errno) && ((S_api_Version.beq x.Version y.Version) && true)))
theorem S_api_Last.beq_iff (x y : S_api_Last) : S_api_Last.beq x y = true ↔ x = y := by
  cases x; cases y; simp [S_api_Last.beq, str_beq, S_api_Version.beq_iff]

structure S_api_Item where
  Name : ByteArray
  Version : S_api_Version
  Crc : Int
def S_api_Item.row (x : S_api_Item) : List Value := [.string x.Name, .int .i64 x.Version.Epoch, .int .i64 x.Version.N, .int .u32 x.Crc]
def dS_api_Item : S_api_Item := S_api_Item.mk (ByteArray.mk #[]) dS_api_Version 0
def S_api_Item.beq (x y : S_api_Item) : Bool := (x.Name == y.Name) && ((S_api_Version.beq x.Version y.Version) && ((x.Crc == y.Crc) && true))
theorem S_api_Item.beq_iff (x y : S_api_Item) : S_api_Item.beq x y = true ↔ x = y := by
  cases x; cases y; simp [S_api_Item.beq, str_beq, S_api_Version.beq_iff]

structure S_sync_noCopy where
def S_sync_noCopy.row (x : S_sync_noCopy) : List Value := []
def dS_sync_noCopy : S_sync_noCopy := S_sync_noCopy.mk 
def S_sync_noCopy.beq (x y : S_sync_noCopy) : Bool := true
theorem S_sync_noCopy.beq_iff (x y : S_sync_noCopy) : S_sync_noCopy.beq x y = true ↔ x = y := by
  cases x; cases y; simp [S_sync_noCopy.beq]

structure S_atomic_noCopy where
def S_atomic_noCopy.row (x : S_atomic_noCopy) : List Value := []
def dS_atomic_noCopy : S_atomic_noCopy := S_atomic_noCopy.mk 
def S_atomic_noCopy.beq (x y : S_atomic_noCopy) : Bool := true
theorem S_atomic_noCopy.beq_iff (x y : S_atomic_noCopy) : S_atomic_noCopy.beq x y = true ↔ x = y := by
  cases x; cases y; simp [S_atomic_noCopy.beq]

structure S_atomic_Bool where
  __ : S_atomic_noCopy
  v : Int
def S_atomic_Bool.row (x : S_atomic_Bool) : List Value := [.int .u32 x.v]
def dS_atomic_Bool : S_atomic_Bool := S_atomic_Bool.mk dS_atomic_noCopy 0
def S_atomic_Bool.beq (x y : S_atomic_Bool) : Bool := (S_atomic_noCopy.beq x.__ y.__) && ((x.v == y.v) && true)
theorem S_atomic_Bool.beq_iff (x y : S_atomic_Bool) : S_atomic_Bool.beq x y = true ↔ x = y := by
  cases x; cases y; simp [S_atomic_Bool.beq, str_beq, S_atomic_noCopy.beq_iff]

structure S_sync_Mutex where
  state : Int
  sema : Int
def S_sync_Mutex.row (x : S_sync_Mutex) : List Value := [.int .i32 x.state, .int .u32 x.sema]
def dS_sync_Mutex : S_sync_Mutex := S_sync_Mutex.mk 0 0
def S_sync_Mutex.beq (x y : S_sync_Mutex) : Bool := (x.state == y.state) && ((x.sema == y.sema) && true)
theorem S_sync_Mutex.beq_iff (x y : S_sync_Mutex) : S_sync_Mutex.beq x y = true ↔ x = y := by
  cases x; cases y; simp [S_sync_Mutex.beq, str_beq]

structure S_sync_Mutex' where
  __ : S_sync_noCopy
  mu : S_sync_Mutex
def S_sync_Mutex'.row (x : S_sync_Mutex') : List Value := [.int .i32 x.mu.state, .int .u32 x.mu.sema]
def dS_sync_Mutex' : S_sync_Mutex' := S_sync_Mutex'.mk dS_sync_noCopy dS_sync_Mutex
def S_sync_Mutex'.beq (x y : S_sync_Mutex') : Bool := (S_sync_noCopy.beq x.__ y.__) && ((S_sync_Mutex.beq x.mu y.mu) && true)
theorem S_sync_Mutex'.beq_iff (x y : S_sync_Mutex') : S_sync_Mutex'.beq x y = true ↔ x = y := by
  cases x; cases y; simp [S_sync_Mutex'.beq, str_beq, S_sync_noCopy.beq_iff, S_sync_Mutex.beq_iff]

structure S_sync_Once where
  __ : S_sync_noCopy
  done : S_atomic_Bool
  m : S_sync_Mutex'
def S_sync_Once.row (x : S_sync_Once) : List Value := [.int .u32 x.done.v, .int .i32 x.m.mu.state, .int .u32 x.m.mu.sema]
def dS_sync_Once : S_sync_Once := S_sync_Once.mk dS_sync_noCopy dS_atomic_Bool dS_sync_Mutex'
def S_sync_Once.beq (x y : S_sync_Once) : Bool := (S_sync_noCopy.beq x.__ y.__) && ((S_atomic_Bool.beq x.done y.done) && ((S_sync_Mutex'.beq x.m y.m) && true))
theorem S_sync_Once.beq_iff (x y : S_sync_Once) : S_sync_Once.beq x y = true ↔ x = y := by
  cases x; cases y; simp [S_sync_Once.beq, str_beq, S_sync_noCopy.beq_iff, S_atomic_Bool.beq_iff, S_sync_Mutex'.beq_iff]

structure S_atomic_align64 where
def S_atomic_align64.row (x : S_atomic_align64) : List Value := []
def dS_atomic_align64 : S_atomic_align64 := S_atomic_align64.mk 
def S_atomic_align64.beq (x y : S_atomic_align64) : Bool := true
theorem S_atomic_align64.beq_iff (x y : S_atomic_align64) : S_atomic_align64.beq x y = true ↔ x = y := by
  cases x; cases y; simp [S_atomic_align64.beq]

structure S_atomic_Int64 where
  __ : S_atomic_noCopy
  __i : S_atomic_align64
  v : Int
def S_atomic_Int64.row (x : S_atomic_Int64) : List Value := [.int .i64 x.v]
def dS_atomic_Int64 : S_atomic_Int64 := S_atomic_Int64.mk dS_atomic_noCopy dS_atomic_align64 0
def S_atomic_Int64.beq (x y : S_atomic_Int64) : Bool := (S_atomic_noCopy.beq x.__ y.__) && ((S_atomic_align64.beq x.__i y.__i) && ((x.v == y.v) && true))
theorem S_atomic_Int64.beq_iff (x y : S_atomic_Int64) : S_atomic_Int64.beq x y = true ↔ x = y := by
  cases x; cases y; simp [S_atomic_Int64.beq, str_beq, S_atomic_noCopy.beq_iff, S_atomic_align64.beq_iff]

structure S_digest_Engine where
  once : S_sync_Once
  table : List Int
  calls : S_atomic_Int64
def S_digest_Engine.row (x : S_digest_Engine) : List Value := ([.int .u32 x.once.done.v, .int .i32 x.once.m.mu.state, .int .u32 x.once.m.mu.sema] : List Value) ++ (aU32 x.table ++ (([.int .i64 x.calls.v] : List Value)))
def dS_digest_Engine : S_digest_Engine := S_digest_Engine.mk dS_sync_Once (List.replicate 256 0) dS_atomic_Int64
def S_digest_Engine.beq (x y : S_digest_Engine) : Bool := (S_sync_Once.beq x.once y.once) && ((x.table == y.table) && ((S_atomic_Int64.beq x.calls y.calls) && true))
theorem S_digest_Engine.beq_iff (x y : S_digest_Engine) : S_digest_Engine.beq x y = true ↔ x = y := by
  cases x; cases y; simp [S_digest_Engine.beq, str_beq, S_sync_Once.beq_iff, S_atomic_Int64.beq_iff]

@[reducible] def r5 (o : Option Addr) (l : List UInt8) : Ent := .rd o 1 (List.map rB l)
@[reducible] def o5 (o : Option Addr) (c : Nat) (l : List UInt8) : Ent := .osl o c 5 1 (List.map rB l)
@[reducible] def r9 (o : Option Addr) (l : List ByteArray) : Ent := .rd o 1 (List.map rS l)
@[reducible] def o9 (o : Option Addr) (c : Nat) (l : List ByteArray) : Ent := .osl o c 9 1 (List.map rS l)
@[reducible] def r31 (o : Option Addr) (l : List S_api_Entry) : Ent := .rd o 7 (List.map S_api_Entry.row l)
@[reducible] def o31 (o : Option Addr) (c : Nat) (l : List S_api_Entry) : Ent := .osl o c 31 7 (List.map S_api_Entry.row l)
@[reducible] def r91 (o : Option Addr) (l : List S_api_Item) : Ent := .rd o 4 (List.map S_api_Item.row l)
@[reducible] def o91 (o : Option Addr) (c : Nat) (l : List S_api_Item) : Ent := .osl o c 91 4 (List.map S_api_Item.row l)
@[reducible] def r94 (o : Option Addr) (l : List S_api_Last) : Ent := .rd o 5 (List.map S_api_Last.row l)
@[reducible] def o94 (o : Option Addr) (c : Nat) (l : List S_api_Last) : Ent := .osl o c 94 5 (List.map S_api_Last.row l)

@[reducible] def kc0 (p0 : Int) (p1 : Int) (p2 : Int) (p3 : Int) (p4 : Int) (p5 : Int) (p6 : Int) (p7 : Int) (p8 : Int) (p9 : Int) (p10 : Int) (p11 : Int) (p12 : Int) (p13 : Option Addr) (p14 : Nat) (p15 : Nat) (p16 : Option Addr) (p17 : Nat) (p18 : Nat) (p19 : Option Addr) (p20 : Nat) (p21 : Nat) (p22 : Int) (p23 : Int) (p24 : Int) (p25 : Int) (p26 : Int) (p27 : Int) (p28 : Int) (p29 : Int) (p30 : Int) (p31 : Option Addr) (p32 : Nat) (p33 : Nat) (p34 : Option Addr) (p35 : Nat) (p36 : Nat) (p37 : Option Addr) (p38 : Nat) (p39 : Nat) (p40 : Int) (p41 : Int) (p42 : Bool) (p43 : Int) (p44 : ByteArray) (p45 : Int) (p46 : Int) (p47 : ByteArray) (p48 : Int) (p49 : Int) (p50 : Option Addr) (p51 : Nat) (p52 : Nat) (p53 : Int) (p54 : ByteArray) (p55 : Option Addr) (p56 : Nat) (p57 : Nat) (p58 : Int) (p59 : Int) (p60 : Option Addr) (p61 : Nat) (p62 : Nat) (p63 : Option Addr) (p64 : Nat) (p65 : Nat) (p66 : Int) (p67 : ByteArray) (p68 : Int) (p69 : Int) (p70 : Option Addr) (p71 : Nat) (p72 : Nat) (p73 : Int) (p74 : Bool) : List Value := [.int .i64 p0, .int .i64 p1, .int .i64 p2, .int .i64 p3, .int .i64 p4, .int .i64 p5, .int .i64 p6, .int .i64 p7, .int .i64 p8, .int .i64 p9, .int .i64 p10, .int .i64 p11, .int .i64 p12, .slice p13 p14 p15, .slice p16 p17 p18, .slice p19 p20 p21, .int .i64 p22, .int .i64 p23, .int .i64 p24, .int .i64 p25, .int .i64 p26, .int .i64 p27, .int .i64 p28, .int .i64 p29, .int .i64 p30, .slice p31 p32 p33, .slice p34 p35 p36, .slice p37 p38 p39, .int .i64 p40, .int .i64 p41, .bool p42, .int .i64 p43, .string p44, .int .i64 p45, .int .i64 p46, .string p47, .int .i64 p48, .int .i64 p49, .slice p50 p51 p52, .int .i64 p53, .string p54, .slice p55 p56 p57, .int .i64 p58, .int .i64 p59, .slice p60 p61 p62, .slice p63 p64 p65, .int .i64 p66, .string p67, .int .i64 p68, .int .i64 p69, .slice p70 p71 p72, .int .i64 p73, .bool p74]
@[reducible] def kc1 : List Value := [.int .i64 0, .int .i64 0, .int .i64 0, .int .i64 0, .int .i64 0, .slice none 0 0, .int .i64 0, .int .i64 0, .int .i64 0, .slice none 0 0, .slice none 0 0, .slice none 0 0, .slice none 0 0, .pointer none, .bool false, .int .i64 0, .bool false]
@[reducible] def kc2 (p0 : Int) (p1 : Int) (p2 : Int) (p3 : Int) (p4 : Int) (p5 : Int) (p6 : Int) (p7 : Int) (p8 : Int) (p9 : Int) (p10 : Int) (p11 : Int) (p12 : Option Addr) (p13 : Nat) (p14 : Nat) (p15 : Option Addr) (p16 : Nat) (p17 : Nat) (p18 : Option Addr) (p19 : Nat) (p20 : Nat) (p21 : Int) (p22 : Int) (p23 : Int) (p24 : Int) (p25 : Int) (p26 : Int) (p27 : Int) (p28 : Int) (p29 : Int) (p30 : Option Addr) (p31 : Nat) (p32 : Nat) (p33 : Option Addr) (p34 : Nat) (p35 : Nat) (p36 : Option Addr) (p37 : Nat) (p38 : Nat) (p39 : Int) (p40 : Int) (p41 : Bool) (p42 : Int) (p43 : ByteArray) (p44 : Int) (p45 : Int) (p46 : ByteArray) (p47 : Int) (p48 : Int) (p49 : Option Addr) (p50 : Nat) (p51 : Nat) (p52 : Int) (p53 : ByteArray) (p54 : Option Addr) (p55 : Nat) (p56 : Nat) (p57 : Int) (p58 : Int) (p59 : Option Addr) (p60 : Nat) (p61 : Nat) (p62 : Option Addr) (p63 : Nat) (p64 : Nat) (p65 : Int) : List Value := [.int .i64 p0, .int .i64 p1, .int .i64 p2, .int .i64 p3, .int .i64 p4, .int .i64 p5, .int .i64 p6, .int .i64 p7, .int .i64 p8, .int .i64 p9, .int .i64 p10, .int .i64 p11, .slice p12 p13 p14, .slice p15 p16 p17, .slice p18 p19 p20, .int .i64 p21, .int .i64 p22, .int .i64 p23, .int .i64 p24, .int .i64 p25, .int .i64 p26, .int .i64 p27, .int .i64 p28, .int .i64 p29, .slice p30 p31 p32, .slice p33 p34 p35, .slice p36 p37 p38, .int .i64 p39, .int .i64 p40, .bool p41, .int .i64 p42, .string p43, .int .i64 p44, .int .i64 p45, .string p46, .int .i64 p47, .int .i64 p48, .slice p49 p50 p51, .int .i64 p52, .string p53, .slice p54 p55 p56, .int .i64 p57, .int .i64 p58, .slice p59 p60 p61, .slice p62 p63 p64, .int .i64 p65]
@[reducible] def kc3 : List Value := [.bool false, .int .i64 0, .int .i64 0, .int .i64 0, .slice none 0 0, .slice none 0 0, .slice none 0 0, .bool false, .string (ByteArray.mk #[]), .int .i64 0, .int .i64 0, .slice none 0 0, .bool false, .bool false, .string (ByteArray.mk #[]), .slice none 0 0]
@[reducible] def kc4 (p0 : Bool) (p1 : Int) (p2 : Int) (p3 : Int) (p4 : Bool) (p5 : ByteArray) (p6 : Int) (p7 : Int) (p8 : Bool) (p9 : Bool) (p10 : ByteArray) : List Value := [.bool p0, .int .i64 p1, .int .i64 p2, .int .i64 p3, .slice none 0 0, .slice none 0 0, .slice none 0 0, .bool p4, .string p5, .int .i64 p6, .int .i64 p7, .slice none 0 0, .bool p8, .bool p9, .string p10, .slice none 0 0]
@[reducible] def kc5 (p0 : Int) (p1 : Int) (p2 : Int) (p3 : ByteArray) (p4 : Int) (p5 : Int) (p6 : ByteArray) : List Value := [.bool false, .int .i64 p0, .int .i64 p1, .int .i64 p2, .slice none 0 0, .slice none 0 0, .slice none 0 0, .bool false, .string p3, .int .i64 p4, .int .i64 p5, .slice none 0 0, .bool false, .bool false, .string p6, .slice none 0 0]
@[reducible] def kc6 (p0 : Int) (p1 : Int) (p2 : Int) : List Value := [.int .i64 p0, .int .i64 p1, .int .i64 p2, .slice none 0 0, .slice none 0 0, .slice none 0 0]
@[reducible] def kc7 (p0 : ByteArray) (p1 : Int) (p2 : Int) (p3 : Option Addr) (p4 : Nat) (p5 : Nat) : List Value := [.string p0, .int .i64 p1, .int .i64 p2, .slice p3 p4 p5]
@[reducible] def kc8 : List Value := [.int .i64 0, .int .i64 0, .int .i64 0, .slice none 0 0, .slice none 0 0, .slice none 0 0]
@[reducible] def kc9 (p0 : Int) (p1 : Int) (p2 : Int) (p3 : Int) (p4 : Int) (p5 : Int) (p6 : Int) (p7 : Int) (p8 : Int) : List Value := [.int .i64 p0, .int .i64 p1, .int .i64 p2, .int .i64 p3, .int .i64 p4, .slice none 0 0, .int .i64 p5, .int .i64 p6, .int .i64 p7, .slice none 0 0, .slice none 0 0, .slice none 0 0, .slice none 0 0, .pointer none, .bool false, .int .i64 p8, .bool false]
@[reducible] def kc10 (p0 : Int) (p1 : Int) (p2 : Int) (p3 : Option Addr) (p4 : Nat) (p5 : Nat) : List Value := [.int .i64 p0, .int .i64 p1, .int .i64 p2, .slice p3 p4 p5, .slice none 0 0, .slice none 0 0]
@[reducible] def kc11 (p0 : Int) (p1 : Int) (p2 : Int) (p3 : Option Addr) (p4 : Nat) (p5 : Nat) (p6 : Option Addr) (p7 : Nat) (p8 : Nat) : List Value := [.int .i64 p0, .int .i64 p1, .int .i64 p2, .slice p3 p4 p5, .slice p6 p7 p8, .slice none 0 0]
@[reducible] def kc12 (p0 : Int) (p1 : Int) (p2 : Int) (p3 : Option Addr) (p4 : Nat) (p5 : Nat) (p6 : Option Addr) (p7 : Nat) (p8 : Nat) (p9 : Option Addr) (p10 : Nat) (p11 : Nat) : List Value := [.int .i64 p0, .int .i64 p1, .int .i64 p2, .slice p3 p4 p5, .slice p6 p7 p8, .slice p9 p10 p11]
@[reducible] def kc13 : List Value := [.int .i64 3, .int .i64 0, .int .i64 0, .slice none 0 0, .slice none 0 0, .slice none 0 0]
@[reducible] def kc14 (p0 : Option Addr) (p1 : Nat) : List Value := [.int .i64 3, .int .i64 0, .int .i64 0, .slice p0 0 p1, .slice none 0 0, .slice none 0 0]
@[reducible] def kc15 (p0 : Option Addr) (p1 : Nat) (p2 : Option Addr) (p3 : Nat) : List Value := [.int .i64 3, .int .i64 0, .int .i64 0, .slice p0 0 p1, .slice p2 0 p3, .slice none 0 0]
@[reducible] def kc16 (p0 : Option Addr) (p1 : Nat) (p2 : Option Addr) (p3 : Nat) (p4 : Option Addr) (p5 : Nat) : List Value := [.int .i64 3, .int .i64 0, .int .i64 0, .slice p0 0 p1, .slice p2 0 p3, .slice p4 0 p5]
@[reducible] def kc17 (p0 : Option Addr) (p1 : Nat) (p2 : Option Addr) (p3 : Nat) (p4 : Option Addr) (p5 : Nat) (p6 : Option Addr) (p7 : Nat) : List Value := [.int .i64 1, .int .i64 0, .int .i64 3, .int .i64 0, .int .i64 9, .slice p0 1 p1, .int .i64 3, .int .i64 0, .int .i64 0, .slice p2 0 p3, .slice p4 0 p5, .slice p6 0 p7, .slice none 0 0, .pointer none, .bool false, .int .i64 0, .bool true]
@[reducible] def kc18 (p0 : Option Addr) : List Value := [.int .i64 30, .int .i64 3, .int .i64 0, .int .i64 2, .int .i64 0, .int .i64 0, .int .i64 0, .int .i64 1, .int .i64 0, .int .i64 5, .int .i64 1, .int .i64 0, .slice none 0 0, .slice none 0 0, .slice none 0 0, .int .i64 0, .int .i64 0, .int .i64 0, .int .i64 0, .int .i64 0, .int .i64 0, .int .i64 0, .int .i64 0, .int .i64 0, .slice none 0 0, .slice none 0 0, .slice none 0 0, .int .i64 0, .int .i64 0, .bool false, .int .i64 0, .string (ByteArray.mk #[]), .int .i64 0, .int .i64 0, .string (ByteArray.mk #[]), .int .i64 0, .int .i64 0, .slice none 0 0, .int .i64 2, .string (ByteArray.mk #[97]), .slice p0 1 1, .int .i64 0, .int .i64 0, .slice none 0 0, .slice none 0 0, .int .i64 0]
@[reducible] def kc19 (p0 : Option Addr) (p1 : Nat) : List Value := [.int .i64 30, .int .i64 3, .int .i64 0, .int .i64 2, .int .i64 0, .int .i64 0, .int .i64 0, .int .i64 1, .int .i64 0, .int .i64 5, .int .i64 1, .int .i64 0, .slice none 0 0, .slice none 0 0, .slice none 0 0, .int .i64 0, .int .i64 0, .int .i64 0, .int .i64 0, .int .i64 0, .int .i64 0, .int .i64 0, .int .i64 0, .int .i64 0, .slice none 0 0, .slice none 0 0, .slice none 0 0, .int .i64 0, .int .i64 0, .bool false, .int .i64 0, .string (ByteArray.mk #[]), .int .i64 0, .int .i64 0, .string (ByteArray.mk #[]), .int .i64 0, .int .i64 0, .slice none 0 0, .int .i64 2, .string (ByteArray.mk #[97]), .slice p0 1 p1, .int .i64 0, .int .i64 0, .slice none 0 0, .slice none 0 0, .int .i64 0]
@[reducible] def kc20 (p0 : Option Addr) (p1 : Nat) (p2 : Option Addr) (p3 : Nat) (p4 : Option Addr) (p5 : Nat) (p6 : Option Addr) (p7 : Nat) (p8 : Option Addr) (p9 : Nat) : List Value := [.int .i64 1, .int .i64 0, .int .i64 3, .int .i64 0, .int .i64 9, .slice p0 1 p1, .int .i64 3, .int .i64 0, .int .i64 0, .slice p2 0 p3, .slice p4 0 p5, .slice p6 0 p7, .slice p8 1 p9, .pointer none, .bool false, .int .i64 0, .bool true]
@[reducible] def kc21 (p0 : Option Addr) (p1 : Nat) (p2 : Option Addr) (p3 : Nat) (p4 : Option Addr) (p5 : Nat) (p6 : Option Addr) (p7 : Nat) (p8 : Option Addr) (p9 : Nat) : List Value := [.int .i64 1, .int .i64 0, .int .i64 3, .int .i64 0, .int .i64 9, .slice p0 1 p1, .int .i64 3, .int .i64 0, .int .i64 0, .slice p2 0 p3, .slice p4 0 p5, .slice p6 0 p7, .slice p8 0 p9, .pointer none, .bool false, .int .i64 0, .bool true]
@[reducible] def kc22 : List Value := [.int .i64 0, .int .i64 0, .int .i64 0, .int .i64 0, .int .i64 0]
@[reducible] def kc23 (p0 : Option Addr) (p1 : Nat) : List Value := [.int .i64 2, .string (ByteArray.mk #[97]), .slice p0 1 p1, .int .i64 0, .int .i64 0]
@[reducible] def kc24 : List Value := [.string (ByteArray.mk #[]), .int .i64 0, .int .i64 0, .int .u32 0]
@[reducible] def kc25 : List Value := [.int .i64 3, .int .i64 1, .bool false, .int .i64 0, .string (ByteArray.mk #[97]), .int .i64 5, .int .i64 1]
@[reducible] def kc26 (p0 : Option Addr) (p1 : Nat) (p2 : Option Addr) (p3 : Nat) : List Value := [.int .i64 30, .int .i64 3, .int .i64 0, .int .i64 2, .int .i64 0, .int .i64 0, .int .i64 0, .int .i64 1, .int .i64 0, .int .i64 5, .int .i64 1, .int .i64 0, .slice none 0 0, .slice none 0 0, .slice none 0 0, .int .i64 0, .int .i64 0, .int .i64 0, .int .i64 0, .int .i64 0, .int .i64 0, .int .i64 0, .int .i64 0, .int .i64 0, .slice none 0 0, .slice none 0 0, .slice none 0 0, .int .i64 0, .int .i64 0, .bool false, .int .i64 0, .string (ByteArray.mk #[]), .int .i64 0, .int .i64 0, .string (ByteArray.mk #[]), .int .i64 0, .int .i64 0, .slice none 0 0, .int .i64 2, .string (ByteArray.mk #[97]), .slice p0 1 p1, .int .i64 0, .int .i64 0, .slice none 0 0, .slice none 0 0, .int .i64 0, .bool true, .int .i64 3, .int .i64 1, .bool false, .int .i64 0, .string (ByteArray.mk #[97]), .int .i64 5, .int .i64 1, .string (ByteArray.mk #[]), .int .i64 0, .int .i64 0, .slice none 0 0, .int .i64 0, .slice p2 1 p3, .bool false]
@[reducible] def kc27 (p0 : Option Addr) (p1 : Nat) : List Value := [.string (ByteArray.mk #[97]), .int .i64 3, .int .i64 1, .slice p0 1 p1]
@[reducible] def kc28 (p0 : Option Addr) (p1 : Nat) (p2 : Option Addr) (p3 : Nat) (p4 : Option Addr) (p5 : Nat) : List Value := [.int .i64 30, .int .i64 3, .int .i64 0, .int .i64 2, .int .i64 0, .int .i64 0, .int .i64 0, .int .i64 1, .int .i64 0, .int .i64 5, .int .i64 1, .int .i64 0, .slice none 0 0, .slice none 0 0, .slice none 0 0, .int .i64 0, .int .i64 0, .int .i64 0, .int .i64 0, .int .i64 0, .int .i64 0, .int .i64 0, .int .i64 0, .int .i64 0, .slice none 0 0, .slice none 0 0, .slice none 0 0, .int .i64 0, .int .i64 0, .bool false, .int .i64 0, .string (ByteArray.mk #[]), .int .i64 0, .int .i64 0, .string (ByteArray.mk #[]), .int .i64 0, .int .i64 0, .slice none 0 0, .int .i64 2, .string (ByteArray.mk #[97]), .slice p0 1 p1, .int .i64 0, .int .i64 0, .slice none 0 0, .slice none 0 0, .int .i64 0, .bool true, .int .i64 3, .int .i64 1, .bool false, .int .i64 0, .string (ByteArray.mk #[97]), .int .i64 5, .int .i64 1, .string (ByteArray.mk #[97]), .int .i64 3, .int .i64 1, .slice p2 1 p3, .int .i64 0, .slice p4 1 p5, .bool false]
@[reducible] def kc29 (p0 : Option Addr) (p1 : Nat) (p2 : Option Addr) (p3 : Nat) (p4 : Option Addr) (p5 : Nat) : List Value := [.int .i64 3, .int .i64 0, .int .i64 0, .slice p0 1 p1, .slice p2 0 p3, .slice p4 0 p5]
@[reducible] def kc30 : List Value := [.int .i64 5, .int .i64 1, .int .i64 0, .int .i64 3, .int .i64 1]
@[reducible] def kc31 (p0 : Option Addr) (p1 : Nat) (p2 : Option Addr) (p3 : Nat) (p4 : Option Addr) (p5 : Nat) : List Value := [.int .i64 3, .int .i64 0, .int .i64 0, .slice p0 1 p1, .slice p2 1 p3, .slice p4 0 p5]
@[reducible] def kc32 (p0 : Int) : List Value := [.string (ByteArray.mk #[97]), .int .i64 3, .int .i64 1, .int .u32 p0]
@[reducible] def kc33 (p0 : Option Addr) (p1 : Nat) (p2 : Option Addr) (p3 : Nat) (p4 : Option Addr) (p5 : Nat) : List Value := [.int .i64 3, .int .i64 0, .int .i64 0, .slice p0 1 p1, .slice p2 1 p3, .slice p4 1 p5]
@[reducible] def kc34 (p0 : Option Addr) (p1 : Nat) (p2 : Option Addr) (p3 : Nat) (p4 : Option Addr) (p5 : Nat) (p6 : Option Addr) (p7 : Nat) (p8 : Option Addr) (p9 : Nat) : List Value := [.int .i64 1, .int .i64 0, .int .i64 3, .int .i64 0, .int .i64 9, .slice p0 1 p1, .int .i64 3, .int .i64 0, .int .i64 0, .slice p2 1 p3, .slice p4 1 p5, .slice p6 1 p7, .slice p8 0 p9, .pointer none, .bool false, .int .i64 0, .bool true]
@[reducible] def kc35 (p0 : Option Addr) (p1 : Nat) (p2 : Option Addr) (p3 : Nat) (p4 : Option Addr) (p5 : Nat) (p6 : Option Addr) (p7 : Nat) (p8 : Option Addr) (p9 : Nat) (p10 : Nat) : List Value := [.int .i64 1, .int .i64 0, .int .i64 3, .int .i64 0, .int .i64 9, .slice p0 1 p1, .int .i64 3, .int .i64 0, .int .i64 0, .slice p2 1 p3, .slice p4 1 p5, .slice p6 1 p7, .slice p8 0 p9, .pointer (some ⟨p10, 0, none⟩), .bool false, .int .i64 0, .bool true]
@[reducible] def kc36 (p0 : Option Addr) (p1 : Nat) (p2 : Option Addr) (p3 : Nat) (p4 : Option Addr) (p5 : Nat) : List Value := [.bool true, .int .i64 3, .int .i64 0, .int .i64 0, .slice p0 1 p1, .slice p2 1 p3, .slice p4 1 p5, .bool false, .string (ByteArray.mk #[]), .int .i64 0, .int .i64 0, .slice none 0 0, .bool false, .bool false, .string (ByteArray.mk #[]), .slice none 0 0]
@[reducible] def kc37 : List Value := [.string (ByteArray.mk #[]), .int .i64 0, .int .i64 0, .slice none 0 0]
@[reducible] def kc38 (p0 : Option Addr) (p1 : Nat) (p2 : Option Addr) (p3 : Nat) (p4 : Option Addr) (p5 : Nat) (p6 : Option Addr) (p7 : Nat) : List Value := [.bool true, .int .i64 3, .int .i64 0, .int .i64 0, .slice p0 1 p1, .slice p2 1 p3, .slice p4 1 p5, .bool true, .string (ByteArray.mk #[97]), .int .i64 3, .int .i64 1, .slice p6 1 p7, .bool false, .bool false, .string (ByteArray.mk #[]), .slice none 0 0]
@[reducible] def kc39 : List Value := [.int .i64 0, .int .i64 0, .int .i64 0, .int .i64 0, .int .i64 0, .int .i64 0, .int .i64 0, .int .i64 0, .int .i64 0, .int .i64 0, .int .i64 0, .int .i64 0, .slice none 0 0, .slice none 0 0, .slice none 0 0, .int .i64 0, .int .i64 0, .int .i64 0, .int .i64 0, .int .i64 0, .int .i64 0, .int .i64 0, .int .i64 0, .int .i64 0, .slice none 0 0, .slice none 0 0, .slice none 0 0, .int .i64 0, .int .i64 0, .bool false, .int .i64 0, .string (ByteArray.mk #[]), .int .i64 0, .int .i64 0, .string (ByteArray.mk #[]), .int .i64 0, .int .i64 0, .slice none 0 0, .int .i64 0, .string (ByteArray.mk #[]), .slice none 0 0, .int .i64 0, .int .i64 0, .slice none 0 0, .slice none 0 0, .int .i64 0]
@[reducible] def kc40 (p0 : Option Addr) (p1 : Nat) : List Value := [.int .i64 32, .int .i64 0, .int .i64 0, .int .i64 0, .int .i64 0, .int .i64 0, .int .i64 0, .int .i64 0, .int .i64 0, .int .i64 0, .int .i64 0, .int .i64 0, .slice none 0 0, .slice none 0 0, .slice none 0 0, .int .i64 0, .int .i64 0, .int .i64 0, .int .i64 0, .int .i64 0, .int .i64 0, .int .i64 0, .int .i64 0, .int .i64 0, .slice none 0 0, .slice none 0 0, .slice none 0 0, .int .i64 3, .int .i64 1, .bool false, .int .i64 0, .string (ByteArray.mk #[97]), .int .i64 5, .int .i64 1, .string (ByteArray.mk #[97]), .int .i64 3, .int .i64 1, .slice p0 1 p1, .int .i64 0, .string (ByteArray.mk #[]), .slice none 0 0, .int .i64 0, .int .i64 0, .slice none 0 0, .slice none 0 0, .int .i64 0]
@[reducible] def kc41 (p0 : Option Addr) (p1 : Nat) : List Value := [.int .i64 32, .int .i64 2, .int .i64 0, .int .i64 2, .int .i64 1, .int .i64 0, .int .i64 0, .int .i64 0, .int .i64 0, .int .i64 0, .int .i64 0, .int .i64 0, .slice none 0 0, .slice none 0 0, .slice none 0 0, .int .i64 0, .int .i64 0, .int .i64 0, .int .i64 0, .int .i64 0, .int .i64 0, .int .i64 0, .int .i64 0, .int .i64 0, .slice none 0 0, .slice none 0 0, .slice none 0 0, .int .i64 3, .int .i64 1, .bool false, .int .i64 0, .string (ByteArray.mk #[97]), .int .i64 5, .int .i64 1, .string (ByteArray.mk #[97]), .int .i64 3, .int .i64 1, .slice p0 1 p1, .int .i64 0, .string (ByteArray.mk #[]), .slice none 0 0, .int .i64 0, .int .i64 0, .slice none 0 0, .slice none 0 0, .int .i64 0]
@[reducible] def kc42 (p0 : Option Addr) (p1 : Nat) : List Value := [.int .i64 32, .int .i64 2, .int .i64 0, .int .i64 2, .int .i64 1, .int .i64 9, .int .i64 3, .int .i64 1, .int .i64 0, .int .i64 0, .int .i64 0, .int .i64 0, .slice none 0 0, .slice none 0 0, .slice none 0 0, .int .i64 0, .int .i64 0, .int .i64 0, .int .i64 0, .int .i64 0, .int .i64 0, .int .i64 0, .int .i64 0, .int .i64 0, .slice none 0 0, .slice none 0 0, .slice none 0 0, .int .i64 3, .int .i64 1, .bool false, .int .i64 0, .string (ByteArray.mk #[97]), .int .i64 5, .int .i64 1, .string (ByteArray.mk #[97]), .int .i64 3, .int .i64 1, .slice p0 1 p1, .int .i64 0, .string (ByteArray.mk #[]), .slice none 0 0, .int .i64 0, .int .i64 0, .slice none 0 0, .slice none 0 0, .int .i64 0]
@[reducible] def kc43 (p0 : Option Addr) (p1 : Nat) (p2 : Option Addr) (p3 : Nat) (p4 : Option Addr) (p5 : Nat) (p6 : Option Addr) (p7 : Nat) (p8 : Option Addr) (p9 : Nat) : List Value := [.bool true, .int .i64 3, .int .i64 0, .int .i64 0, .slice p0 1 p1, .slice p2 1 p3, .slice p4 1 p5, .bool true, .string (ByteArray.mk #[97]), .int .i64 3, .int .i64 1, .slice p6 1 p7, .bool false, .bool false, .string (ByteArray.mk #[]), .slice p8 1 p9]
@[reducible] def kc44 : List Value := [.int .i64 33, .int .i64 2, .int .i64 1, .int .i64 2, .int .i64 0, .int .i64 0, .int .i64 3, .int .i64 1, .int .i64 0, .int .i64 0, .int .i64 0, .int .i64 0, .slice none 0 0, .slice none 0 0, .slice none 0 0, .int .i64 0, .int .i64 0, .int .i64 0, .int .i64 0, .int .i64 0, .int .i64 0, .int .i64 0, .int .i64 0, .int .i64 0, .slice none 0 0, .slice none 0 0, .slice none 0 0, .int .i64 3, .int .i64 1, .bool false, .int .i64 0, .string (ByteArray.mk #[97]), .int .i64 5, .int .i64 1, .string (ByteArray.mk #[]), .int .i64 0, .int .i64 0, .slice none 0 0, .int .i64 0, .string (ByteArray.mk #[]), .slice none 0 0, .int .i64 0, .int .i64 0, .slice none 0 0, .slice none 0 0, .int .i64 0]
@[reducible] def kc45 (p0 : Option Addr) (p1 : Nat) (p2 : Option Addr) (p3 : Nat) (p4 : Option Addr) (p5 : Nat) : List Value := [.int .i64 30, .int .i64 3, .int .i64 0, .int .i64 2, .int .i64 0, .int .i64 0, .int .i64 0, .int .i64 1, .int .i64 0, .int .i64 5, .int .i64 1, .int .i64 0, .slice none 0 0, .slice none 0 0, .slice none 0 0, .int .i64 0, .int .i64 0, .int .i64 0, .int .i64 0, .int .i64 0, .int .i64 0, .int .i64 0, .int .i64 0, .int .i64 0, .slice none 0 0, .slice none 0 0, .slice none 0 0, .int .i64 0, .int .i64 0, .bool false, .int .i64 0, .string (ByteArray.mk #[]), .int .i64 0, .int .i64 0, .string (ByteArray.mk #[]), .int .i64 0, .int .i64 0, .slice none 0 0, .int .i64 2, .string (ByteArray.mk #[97]), .slice p0 1 p1, .int .i64 0, .int .i64 0, .slice none 0 0, .slice none 0 0, .int .i64 0, .bool true, .int .i64 3, .int .i64 1, .bool false, .int .i64 0, .string (ByteArray.mk #[97]), .int .i64 5, .int .i64 1, .string (ByteArray.mk #[97]), .int .i64 3, .int .i64 1, .slice p2 1 p3, .int .i64 0, .slice p4 0 p5, .bool false]
@[reducible] def kc46 : List Value := [.string (ByteArray.mk #[97]), .int .i64 3, .int .i64 1, .slice none 0 0]
@[reducible] def kc47 : List Value := [.int .i64 0, .int .i64 0, .int .i64 0, .int .i64 0, .int .i64 0, .int .i64 0, .int .i64 0, .int .i64 0, .int .i64 0, .int .i64 0, .int .i64 0, .int .i64 0, .slice none 0 0, .slice none 0 0, .slice none 0 0, .int .i64 0, .int .i64 0, .int .i64 0, .int .i64 0, .int .i64 0, .int .i64 0, .int .i64 0, .int .i64 0, .int .i64 0, .slice none 0 0, .slice none 0 0, .slice none 0 0, .int .i64 0, .int .i64 0, .bool false, .int .i64 0, .string (ByteArray.mk #[]), .int .i64 0, .int .i64 0, .string (ByteArray.mk #[97]), .int .i64 3, .int .i64 1, .slice none 0 0, .int .i64 0, .string (ByteArray.mk #[]), .slice none 0 0, .int .i64 0, .int .i64 0, .slice none 0 0, .slice none 0 0, .int .i64 0]
@[reducible] def kc48 : List Value := [.int .i64 31, .int .i64 0, .int .i64 0, .int .i64 0, .int .i64 0, .int .i64 0, .int .i64 0, .int .i64 0, .int .i64 0, .int .i64 5, .int .i64 1, .int .i64 0, .slice none 0 0, .slice none 0 0, .slice none 0 0, .int .i64 0, .int .i64 0, .int .i64 0, .int .i64 0, .int .i64 0, .int .i64 0, .int .i64 0, .int .i64 0, .int .i64 0, .slice none 0 0, .slice none 0 0, .slice none 0 0, .int .i64 0, .int .i64 0, .bool false, .int .i64 0, .string (ByteArray.mk #[]), .int .i64 0, .int .i64 0, .string (ByteArray.mk #[97]), .int .i64 3, .int .i64 1, .slice none 0 0, .int .i64 0, .string (ByteArray.mk #[]), .slice none 0 0, .int .i64 0, .int .i64 0, .slice none 0 0, .slice none 0 0, .int .i64 0]
@[reducible] def kc49 : List Value := [.int .i64 31, .int .i64 2, .int .i64 0, .int .i64 2, .int .i64 0, .int .i64 0, .int .i64 0, .int .i64 0, .int .i64 0, .int .i64 5, .int .i64 1, .int .i64 0, .slice none 0 0, .slice none 0 0, .slice none 0 0, .int .i64 0, .int .i64 0, .int .i64 0, .int .i64 0, .int .i64 0, .int .i64 0, .int .i64 0, .int .i64 0, .int .i64 0, .slice none 0 0, .slice none 0 0, .slice none 0 0, .int .i64 0, .int .i64 0, .bool false, .int .i64 0, .string (ByteArray.mk #[]), .int .i64 0, .int .i64 0, .string (ByteArray.mk #[97]), .int .i64 3, .int .i64 1, .slice none 0 0, .int .i64 0, .string (ByteArray.mk #[]), .slice none 0 0, .int .i64 0, .int .i64 0, .slice none 0 0, .slice none 0 0, .int .i64 0]
@[reducible] def kc50 : List Value := [.int .i64 31, .int .i64 2, .int .i64 0, .int .i64 2, .int .i64 0, .int .i64 9, .int .i64 3, .int .i64 1, .int .i64 0, .int .i64 5, .int .i64 1, .int .i64 0, .slice none 0 0, .slice none 0 0, .slice none 0 0, .int .i64 0, .int .i64 0, .int .i64 0, .int .i64 0, .int .i64 0, .int .i64 0, .int .i64 0, .int .i64 0, .int .i64 0, .slice none 0 0, .slice none 0 0, .slice none 0 0, .int .i64 0, .int .i64 0, .bool false, .int .i64 0, .string (ByteArray.mk #[]), .int .i64 0, .int .i64 0, .string (ByteArray.mk #[97]), .int .i64 3, .int .i64 1, .slice none 0 0, .int .i64 0, .string (ByteArray.mk #[]), .slice none 0 0, .int .i64 0, .int .i64 0, .slice none 0 0, .slice none 0 0, .int .i64 0]
@[reducible] def kc51 : List Value := [.int .i64 31, .int .i64 2, .int .i64 0, .int .i64 3, .int .i64 0, .int .i64 9, .int .i64 3, .int .i64 1, .int .i64 0, .int .i64 5, .int .i64 1, .int .i64 0, .slice none 0 0, .slice none 0 0, .slice none 0 0, .int .i64 0, .int .i64 0, .int .i64 0, .int .i64 0, .int .i64 0, .int .i64 0, .int .i64 0, .int .i64 0, .int .i64 0, .slice none 0 0, .slice none 0 0, .slice none 0 0, .int .i64 0, .int .i64 0, .bool false, .int .i64 0, .string (ByteArray.mk #[]), .int .i64 0, .int .i64 0, .string (ByteArray.mk #[97]), .int .i64 3, .int .i64 1, .slice none 0 0, .int .i64 0, .string (ByteArray.mk #[]), .slice none 0 0, .int .i64 0, .int .i64 0, .slice none 0 0, .slice none 0 0, .int .i64 0]
@[reducible] def kc52 (p0 : Option Addr) (p1 : Nat) : List Value := [.bool false, .int .i64 0, .int .i64 0, .int .i64 0, .slice none 0 0, .slice none 0 0, .slice none 0 0, .bool false, .string (ByteArray.mk #[]), .int .i64 0, .int .i64 0, .slice none 0 0, .bool false, .bool false, .string (ByteArray.mk #[]), .slice p0 1 p1]

def m___primary_Machine__Step (F : Nat) (a1_Kind : Int) (a1_From : S_api_Node) (a1_To : S_api_Node) (a1_Boot : Int) (a1_Epoch : Int) (a1_Pg : S_api_Pg) (a1_Client : Int) (a1_Number : Int) (a1_Ballot : Int) (a1_Slots_n : Nat) (a1_Incs_n : Nat) (a1_Changes_n : Nat) (a1_Info : S_api_Info) (a1_State_Les : Int) (a1_State_Tail : S_api_Version) (a1_State_Log : List S_api_Entry) (a1_State_Lasts : List S_api_Last) (a1_State_Items : List S_api_Item) (a1_Entry : S_api_Entry) (a1_Object_Name : ByteArray) (a1_Object_Version : S_api_Version) (a1_Object_Data : List UInt8) (a1_Op_Kind : Int) (a1_Op_Name : ByteArray) (a1_Op_Data : List UInt8) (a1_Op_Expect : S_api_Version) (a1_Items : List S_api_Item) (a1_Names : List ByteArray) (a1_Errno : Int) : Option (Bool × Int × S_api_Version × Bool × ByteArray × S_api_Version × Bool × Bool × ByteArray) :=
  some (false, 0, (S_api_Version.mk 0 0), false, (ByteArray.mk #[]), (S_api_Version.mk 0 0), false, false, (ByteArray.mk #[]))

def m_tholeref02_Int (F : Nat) (a1 : Int) : Option (List UInt8) :=
  grd ((8 : Int) ≤ 9223372036854775807) (loopC (fun (nx32 : List UInt8 → Option (List UInt8)) (v6_1 : Nat) (l20000_1 : List UInt8) => grd (I64 (8 * ((v6_1 : Nat) : Int))) (grd (0 ≤ (8 * ((v6_1 : Nat) : Int))) (grd (0 ≤ (IntKind.u8.wrap (Int.fdiv a1 (2 ^ (min (Int.toNat (8 * ((v6_1 : Nat) : Int))) 64)))) ∧ (IntKind.u8.wrap (Int.fdiv a1 (2 ^ (min (Int.toNat (8 * ((v6_1 : Nat) : Int))) 64)))) < 256) (grd (App (l20000_1.length + [(UInt8.ofNat (Int.toNat (IntKind.u8.wrap (Int.fdiv a1 (2 ^ (min (Int.toNat (8 * ((v6_1 : Nat) : Int))) 64))))))].length) 1) (nx32 (l20000_1 ++ [(UInt8.ofNat (Int.toNat (IntKind.u8.wrap (Int.fdiv a1 (2 ^ (min (Int.toNat (8 * ((v6_1 : Nat) : Int))) 64))))))])))))) (fun (v6_1 : Nat) (l20000_1 : List UInt8) => some l20000_1) (Int.toNat (8 - ((0 : Nat) : Int))) 0 ([] : List UInt8))

def m_tholeref02_Int_2 (F : Nat) (a0 : List UInt8) (a1 : Int) : Option (List UInt8) :=
  grd ((8 : Int) ≤ 9223372036854775807) (loopC (fun (nx32 : List UInt8 → Option (List UInt8)) (v6_1 : Nat) (l1_1 : List UInt8) => grd (I64 (8 * ((v6_1 : Nat) : Int))) (grd (0 ≤ (8 * ((v6_1 : Nat) : Int))) (grd (0 ≤ (IntKind.u8.wrap (Int.fdiv a1 (2 ^ (min (Int.toNat (8 * ((v6_1 : Nat) : Int))) 64)))) ∧ (IntKind.u8.wrap (Int.fdiv a1 (2 ^ (min (Int.toNat (8 * ((v6_1 : Nat) : Int))) 64)))) < 256) (grd (App (l1_1.length + [(UInt8.ofNat (Int.toNat (IntKind.u8.wrap (Int.fdiv a1 (2 ^ (min (Int.toNat (8 * ((v6_1 : Nat) : Int))) 64))))))].length) 1) (nx32 (l1_1 ++ [(UInt8.ofNat (Int.toNat (IntKind.u8.wrap (Int.fdiv a1 (2 ^ (min (Int.toNat (8 * ((v6_1 : Nat) : Int))) 64))))))])))))) (fun (v6_1 : Nat) (l1_1 : List UInt8) => some l1_1) (Int.toNat (8 - ((0 : Nat) : Int))) 0 a0)

def m_tholeref02_PutVersion (F : Nat) (a0 : List UInt8) (a1 : S_api_Version) : Option (List UInt8) :=
  (m_tholeref02_Int_2 F a0 a1.Epoch).bind (fun y3 => (m_tholeref02_Int_2 F y3 a1.N).bind (fun y9 => some y9))

def m_tholeref02_Word (F : Nat) (a0 : List UInt8) (a1 : Int) : Option (List UInt8) :=
  grd (0 ≤ (IntKind.u8.wrap (Int.fdiv a1 (2 ^ 0))) ∧ (IntKind.u8.wrap (Int.fdiv a1 (2 ^ 0))) < 256) (grd (App (a0.length + [(UInt8.ofNat (Int.toNat (IntKind.u8.wrap (Int.fdiv a1 (2 ^ 0)))))].length) 1) (grd (0 ≤ (IntKind.u8.wrap (Int.fdiv a1 (2 ^ 8))) ∧ (IntKind.u8.wrap (Int.fdiv a1 (2 ^ 8))) < 256) (grd (App ((a0 ++ [(UInt8.ofNat (Int.toNat (IntKind.u8.wrap (Int.fdiv a1 (2 ^ 0)))))]).length + [(UInt8.ofNat (Int.toNat (IntKind.u8.wrap (Int.fdiv a1 (2 ^ 8)))))].length) 1) (grd (0 ≤ (IntKind.u8.wrap (Int.fdiv a1 (2 ^ 16))) ∧ (IntKind.u8.wrap (Int.fdiv a1 (2 ^ 16))) < 256) (grd (App (((a0 ++ [(UInt8.ofNat (Int.toNat (IntKind.u8.wrap (Int.fdiv a1 (2 ^ 0)))))]) ++ [(UInt8.ofNat (Int.toNat (IntKind.u8.wrap (Int.fdiv a1 (2 ^ 8)))))]).length + [(UInt8.ofNat (Int.toNat (IntKind.u8.wrap (Int.fdiv a1 (2 ^ 16)))))].length) 1) (grd (0 ≤ (IntKind.u8.wrap (Int.fdiv a1 (2 ^ 24))) ∧ (IntKind.u8.wrap (Int.fdiv a1 (2 ^ 24))) < 256) (grd (App ((((a0 ++ [(UInt8.ofNat (Int.toNat (IntKind.u8.wrap (Int.fdiv a1 (2 ^ 0)))))]) ++ [(UInt8.ofNat (Int.toNat (IntKind.u8.wrap (Int.fdiv a1 (2 ^ 8)))))]) ++ [(UInt8.ofNat (Int.toNat (IntKind.u8.wrap (Int.fdiv a1 (2 ^ 16)))))]).length + [(UInt8.ofNat (Int.toNat (IntKind.u8.wrap (Int.fdiv a1 (2 ^ 24)))))].length) 1) (some ((((a0 ++ [(UInt8.ofNat (Int.toNat (IntKind.u8.wrap (Int.fdiv a1 (2 ^ 0)))))]) ++ [(UInt8.ofNat (Int.toNat (IntKind.u8.wrap (Int.fdiv a1 (2 ^ 8)))))]) ++ [(UInt8.ofNat (Int.toNat (IntKind.u8.wrap (Int.fdiv a1 (2 ^ 16)))))]) ++ [(UInt8.ofNat (Int.toNat (IntKind.u8.wrap (Int.fdiv a1 (2 ^ 24)))))])))))))))

def m_tholeref02_Count (F : Nat) (a0 : List UInt8) (a1 : Int) : Option (List UInt8) :=
  (m_tholeref02_Word F a0 (IntKind.u32.wrap a1)).bind (fun y3 => some y3)

def m_tholeref02_PutState (F : Nat) (a1_Les : Int) (a1_Tail : S_api_Version) : Option (List UInt8) :=
  (m_tholeref02_Int F a1_Les).bind (fun y3 => (m_tholeref02_PutVersion F y3 (S_api_Version.mk a1_Tail.Epoch a1_Tail.N)).bind (fun y9 => (m_tholeref02_Count F y9 0).bind (fun y15 => (m_tholeref02_Count F y15 0).bind (fun y24 => (m_tholeref02_Count F y24 0).bind (fun y33 => some y33)))))

def m_tholeref02_State (F : Nat) (a0_Les : Int) (a0_Tail : S_api_Version) : Option (List UInt8) :=
  (m_tholeref02_PutState F a0_Les a0_Tail).bind (fun y3 => some y3)

def m_tholelaw18_same (F : Nat) (a0_Store : Bool) (a0_State_Les : Int) (a0_State_Tail : S_api_Version) (a0_Put : Bool) (a0_Object_Name : ByteArray) (a0_Object_Version : S_api_Version) (a0_Drop : Bool) (a0_Read : Bool) (a0_Name : ByteArray) (a1_State_Les : Int) (a1_State_Tail : S_api_Version) (a1_Object_Name : ByteArray) (a1_Object_Version : S_api_Version) (a1_Name : ByteArray) : Option (Bool) :=
  jn (fun (v58_1 : Bool) => (bif v58_1 then some false else jn (fun (v85_2 : Bool) => (bif v85_2 then some false else some true)) (fun (J24 : Bool → Option (Bool)) => (bif !(a0_Object_Name.toList == a1_Object_Name.toList) then J24 true else (bif !(S_api_Version.beq a0_Object_Version a1_Object_Version) then J24 true else J24 (!((ByteArray.mk ([] : List UInt8).toArray).toList == (ByteArray.mk ([] : List UInt8).toArray).toList))))))) (fun (J16 : Bool → Option (Bool)) => (bif !(a0_Store == false) then J16 true else (bif !(a0_Put == false) then J16 true else (bif !(a0_Drop == false) then J16 true else (bif !(a0_Read == false) then J16 true else (bif !(a0_Name.toList == a1_Name.toList) then J16 true else (m_tholeref02_State F a0_State_Les a0_State_Tail).bind (fun y8 => (m_tholeref02_State F a1_State_Les a1_State_Tail).bind (fun y12 => J16 (!((ByteArray.mk y8.toArray).toList == (ByteArray.mk y12.toArray).toList))))))))))

def m___primary_Machine__Silent (F : Nat) : Option (Unit) :=
  some ()

def m___primary_Machine__Tick (F : Nat) : Option (Bool × Int × S_api_Version × Bool × ByteArray × S_api_Version × Bool × Bool × ByteArray) :=
  (m___primary_Machine__Silent F).bind (fun y4 => some (false, 0, (S_api_Version.mk 0 0), false, (ByteArray.mk #[]), (S_api_Version.mk 0 0), false, false, (ByteArray.mk #[])))

def m___primary_Machine__Got (F : Nat) (a1_Name : ByteArray) (a1_Version : S_api_Version) (a1_Data : List UInt8) (a2 : Int) : Option (Bool × Int × S_api_Version × Bool × ByteArray × S_api_Version × Bool × Bool × ByteArray) :=
  some (false, 0, (S_api_Version.mk 0 0), false, (ByteArray.mk #[]), (S_api_Version.mk 0 0), false, false, (ByteArray.mk #[]))

def m___primary_Machine__Hold (F : Nat) (a1 : Bool) : Option (Bool × Int × S_api_Version × Bool × ByteArray × S_api_Version × Bool × Bool × ByteArray) :=
  some (false, 0, (S_api_Version.mk 0 0), false, (ByteArray.mk #[]), (S_api_Version.mk 0 0), false, false, (ByteArray.mk #[]))

def m___primary_Machine__Idle (F : Nat) : Option (Unit) :=
  some ()

def m___primary_Machine__Waiting (F : Nat) : Option (Int) :=
  some 0

def m___primary_Machine__State (F : Nat) : Option (Int × S_api_Version) :=
  some (0, (S_api_Version.mk 0 0))

def m___primary_Machine__Step_2 (F : Nat) (a0_pg_ : S_api_Pg) (a0_epoch : Int) (a0_self : Int) (a0_boot : Int) (a0_s_Les : Int) (a0_s_Tail : S_api_Version) (a0_checks : Int) (a1_Kind : Int) (a1_From : S_api_Node) (a1_To : S_api_Node) (a1_Boot : Int) (a1_Epoch : Int) (a1_Pg : S_api_Pg) (a1_Client : Int) (a1_Number : Int) (a1_Ballot : Int) (a1_Slots_n : Nat) (a1_Incs_n : Nat) (a1_Changes_n : Nat) (a1_Info : S_api_Info) (a1_State_Les : Int) (a1_State_Tail : S_api_Version) (a1_State_Log : List S_api_Entry) (a1_State_Lasts : List S_api_Last) (a1_State_Items : List S_api_Item) (a1_Entry : S_api_Entry) (a1_Object_Name : ByteArray) (a1_Object_Version : S_api_Version) (a1_Object_Data : List UInt8) (a1_Op_Kind : Int) (a1_Op_Name : ByteArray) (a1_Op_Data : List UInt8) (a1_Op_Expect : S_api_Version) (a1_Items : List S_api_Item) (a1_Names : List ByteArray) (a1_Errno : Int) : Option (Bool × Int × S_api_Version × Bool × ByteArray × S_api_Version × Bool × Bool × ByteArray) :=
  some (false, 0, (S_api_Version.mk 0 0), false, (ByteArray.mk #[]), (S_api_Version.mk 0 0), false, false, (ByteArray.mk #[]))

def m___primary_Machine__Silent_2 (F : Nat) (a0_pg_ : S_api_Pg) (a0_epoch : Int) (a0_self : Int) (a0_boot : Int) (a0_s_Les : Int) (a0_s_Tail : S_api_Version) (a0_checks : Int) : Option (Unit) :=
  some ()

def m___primary_Machine__Tick_2 (F : Nat) (a0_pg_ : S_api_Pg) (a0_epoch : Int) (a0_self : Int) (a0_boot : Int) (a0_s_Les : Int) (a0_s_Tail : S_api_Version) (a0_checks : Int) : Option (Bool × Int × S_api_Version × Bool × ByteArray × S_api_Version × Bool × Bool × ByteArray) :=
  (m___primary_Machine__Silent_2 F a0_pg_ a0_epoch a0_self a0_boot a0_s_Les a0_s_Tail a0_checks).bind (fun y4 => some (false, 0, (S_api_Version.mk 0 0), false, (ByteArray.mk #[]), (S_api_Version.mk 0 0), false, false, (ByteArray.mk #[])))

def m___primary_Machine__Got_2 (F : Nat) (a0_pg_ : S_api_Pg) (a0_epoch : Int) (a0_self : Int) (a0_boot : Int) (a0_s_Les : Int) (a0_s_Tail : S_api_Version) (a0_checks : Int) (a1_Name : ByteArray) (a1_Version : S_api_Version) (a1_Data : List UInt8) (a2 : Int) : Option (Bool × Int × S_api_Version × Bool × ByteArray × S_api_Version × Bool × Bool × ByteArray) :=
  some (false, 0, (S_api_Version.mk 0 0), false, (ByteArray.mk #[]), (S_api_Version.mk 0 0), false, false, (ByteArray.mk #[]))

def m___primary_Machine__Hold_2 (F : Nat) (a0_pg_ : S_api_Pg) (a0_epoch : Int) (a0_self : Int) (a0_boot : Int) (a0_s_Les : Int) (a0_s_Tail : S_api_Version) (a0_checks : Int) (a1 : Bool) : Option (Bool × Int × S_api_Version × Bool × ByteArray × S_api_Version × Bool × Bool × ByteArray) :=
  some (false, 0, (S_api_Version.mk 0 0), false, (ByteArray.mk #[]), (S_api_Version.mk 0 0), false, false, (ByteArray.mk #[]))

def m___primary_Machine__Idle_2 (F : Nat) (a0_pg_ : S_api_Pg) (a0_epoch : Int) (a0_self : Int) (a0_boot : Int) (a0_s_Les : Int) (a0_s_Tail : S_api_Version) (a0_checks : Int) : Option (Unit) :=
  some ()

def m___primary_Machine__Waiting_2 (F : Nat) (a0_pg_ : S_api_Pg) (a0_epoch : Int) (a0_self : Int) (a0_boot : Int) (a0_s_Les : Int) (a0_s_Tail : S_api_Version) (a0_checks : Int) : Option (Int) :=
  some 0

def m_pglog_Copy (F : Nat) (a0_Les : Int) (a0_Tail : S_api_Version) : Option (Int × S_api_Version × List S_api_Entry × List S_api_Last × List S_api_Item) :=
  grd (App ([] : List S_api_Entry).length 64) (grd (App ([] : List S_api_Last).length 40) (grd (App ([] : List S_api_Item).length 40) (some (a0_Les, a0_Tail, ([] : List S_api_Entry), ([] : List S_api_Last), ([] : List S_api_Item)))))

def m___primary_Machine__State_2 (F : Nat) (a0_pg_ : S_api_Pg) (a0_epoch : Int) (a0_self : Int) (a0_boot : Int) (a0_s_Les : Int) (a0_s_Tail : S_api_Version) (a0_checks : Int) : Option (Int × S_api_Version × List S_api_Entry × List S_api_Last × List S_api_Item) :=
  (m_pglog_Copy F a0_s_Les a0_s_Tail).bind (fun y4 => some (y4.1, y4.2.1, y4.2.2.1, y4.2.2.2.1, y4.2.2.2.2))

def m_slices_Index___int_int_ (F : Nat) : Option (Unit) :=
  some ()

def m_slices_Contains___int_int_ (F : Nat) : Option (Unit) :=
  (m_slices_Index___int_int_ F).bind (fun y3 => some ())

def m_pglog_below (F : Nat) : Option (Unit) :=
  some ()

def m_pglog_rising_api_Item_string_ (F : Nat) : Option (Unit) :=
  some ()

def m_pglog_rising_api_Last_int_ (F : Nat) : Option (Unit) :=
  some ()

def m_pglog_Check (F : Nat) : Option (Unit) :=
  (m_pglog_below F).bind (fun y3 => (m_pglog_rising_api_Item_string_ F).bind (fun y9 => (m_pglog_rising_api_Last_int_ F).bind (fun y11 => some ())))

def m_pglog_Copy_2 (F : Nat) : Option (Unit) :=
  some ()

def m_primary_New (F : Nat) : Option (Unit) :=
  (m_slices_Contains___int_int_ F).bind (fun y3 => (m_pglog_Check F).bind (fun y5 => (m_pglog_Copy_2 F).bind (fun y20 => some ())))

def m_slices_IndexFunc___api_Msg_api_Msg_ (F : Nat) : Option (Unit) :=
  some ()

def m_slices_ContainsFunc___api_Msg_api_Msg_ (F : Nat) : Option (Unit) :=
  (m_slices_IndexFunc___api_Msg_api_Msg_ F).bind (fun y3 => some ())

def m_slices_Clone___byte_byte_ (F : Nat) : Option (Unit) :=
  some ()

def m_pglog_Seen (F : Nat) : Option (Unit) :=
  some ()

def m_pglog_Find (F : Nat) : Option (Unit) :=
  some ()

def m_place_Good (F : Nat) : Option (Unit) :=
  some ()

def m_primary_Verdict (F : Nat) : Option (Unit) :=
  (m_pglog_Find F).bind (fun y3 => (m_place_Good F).bind (fun y9 => some ()))

def m_pglog_Head (F : Nat) : Option (Unit) :=
  some ()

def m_primary_Next (F : Nat) : Option (Unit) :=
  (m_pglog_Head F).bind (fun y3 => some ())

def m_slices_Clone___int_int_ (F : Nat) : Option (Unit) :=
  some ()

def m_digest_New (F : Nat) : Option (Unit) :=
  some ()

def m___digest_Engine__make (F : Nat) (a0 : S_digest_Engine) : Option (S_digest_Engine) :=
  grd ((256 : Int) ≤ 9223372036854775807) (loopC (fun (nx166 : List Int → Option (S_digest_Engine)) (v4_1 : Nat) (c1_3_1 : List Int) => grd ((8 : Int) ≤ 9223372036854775807) (loopC (fun (nx153 : Int → Option (S_digest_Engine)) (v9_10 : Nat) (v3_10 : Int) => (bif (iand .u32 v3_10 1) == 1 then nx153 (ixor .u32 (Int.fdiv v3_10 (2 ^ 1)) 2197175160) else nx153 (Int.fdiv v3_10 (2 ^ 1)))) (fun (v9_10 : Nat) (v3_10 : Int) => grd (v4_1 < 256) (grd (v4_1 < c1_3_1.length) (nx166 (c1_3_1.set v4_1 v3_10)))) (Int.toNat (8 - ((0 : Nat) : Int))) 0 (IntKind.u32.wrap ((v4_1 : Nat) : Int)))) (fun (v4_1 : Nat) (c1_3_1 : List Int) => some (S_digest_Engine.mk a0.once c1_3_1 a0.calls)) (Int.toNat (256 - ((0 : Nat) : Int))) 0 a0.table)

/-- What sync.Once.Do makes of an engine's table. -/
def m_once (F : Nat) (d st se : Int) (L : List Int) (c : Int) : Option (List Int) :=
  grd (st = 0) (grd (L.length = 256) (bif d == 1 then some L else grd (d = 0) ((m___digest_Engine__make F (S_digest_Engine.mk (S_sync_Once.mk S_sync_noCopy.mk (S_atomic_Bool.mk S_atomic_noCopy.mk 0) (S_sync_Mutex'.mk S_sync_noCopy.mk (S_sync_Mutex.mk 1 se))) L (S_atomic_Int64.mk S_atomic_noCopy.mk S_atomic_align64.mk c))).bind (fun y => grd (y.once.done.v = 0 ∧ y.once.m.mu.state = 1 ∧ y.once.m.mu.sema = se ∧ y.calls.v = c ∧ y.table.length = 256) (some y.table)))))

def m___digest_Engine__Crc (F : Nat) : Option (List Int × Int) :=
  (m_once F 0 0 0 (List.replicate 256 0) 1).bind (fun y6 => grd (135 < y6.length) (some (y6, (ixor .u32 4294967295 (ixor .u32 16777215 (y6.getD 135 0))))))

def m_cmp_isNaN_int_ (F : Nat) : Option (Unit) :=
  some ()

def m_cmp_isNaN_int__2 (F : Nat) : Option (Unit) :=
  some ()

def m_cmp_Compare_int_ (F : Nat) : Option (Unit) :=
  (m_cmp_isNaN_int_ F).bind (fun y3 => (m_cmp_isNaN_int__2 F).bind (fun y6 => some ()))

def m_pglog_Cmp (F : Nat) : Option (Unit) :=
  (m_cmp_Compare_int_ F).bind (fun y3 => some ())

def m_pglog_Copy_3 (F : Nat) : Option (Unit) :=
  some ()

def m_slices_BinarySearchFunc___api_Last_api_Last_int_ (F : Nat) : Option (Unit) :=
  some ()

def m_pglog_look_api_Last_int_ (F : Nat) : Option (Unit) :=
  (m_slices_BinarySearchFunc___api_Last_api_Last_int_ F).bind (fun y3 => some ())

def m_slices_Insert___api_Last_api_Last_ (F : Nat) : Option (Unit) :=
  some ()

def m_slices_BinarySearchFunc___api_Item_api_Item_string_ (F : Nat) : Option (Unit) :=
  some ()

def m_pglog_look_api_Item_string_ (F : Nat) : Option (Unit) :=
  (m_slices_BinarySearchFunc___api_Item_api_Item_string_ F).bind (fun y3 => some ())

def m_slices_Insert___api_Item_api_Item_ (F : Nat) (a2_0_3 : Int) : Option (Int) :=
  some a2_0_3

def m_pglog_Append (F : Nat) (a2 : Int) : Option (Int) :=
  (m_pglog_Find F).bind (fun y3 => (m_pglog_Head F).bind (fun y6 => (m_pglog_Cmp F).bind (fun y8 => (m_place_Good F).bind (fun y11 => (m_pglog_Copy_3 F).bind (fun y15 => (m_pglog_look_api_Last_int_ F).bind (fun y27 => (m_slices_Insert___api_Last_api_Last_ F).bind (fun y32 => (m_pglog_look_api_Item_string_ F).bind (fun y39 => (m_slices_Insert___api_Item_api_Item_ F a2).bind (fun y47 => some y47)))))))))

def m_pglog_Copy_4 (F : Nat) (a0_5_0_3 : Int) : Option (Int) :=
  some a0_5_0_3

def m_pglog_Trim (F : Nat) (a0_5_0_3 : Int) : Option (Int) :=
  (m_pglog_Copy_4 F a0_5_0_3).bind (fun y3 => some y3)

def m_primary_copied (F : Nat) : Option (Unit) :=
  (m_slices_Clone___byte_byte_ F).bind (fun y3 => some ())

def m___primary_Machine__stored (F : Nat) (a0_11_0_3 : Int) : Option (Int) :=
  (m_pglog_Copy_4 F a0_11_0_3).bind (fun y3 => (m_primary_copied F).bind (fun y15 => some y3))

def m___primary_Machine__to (F : Nat) (a0_11_0_3 : Int) : Option (Unit) :=
  some ()

def m___primary_Machine__ask (F : Nat) (a0_11_0_3 : Int) : Option (Unit) :=
  (m_primary_copied F).bind (fun y5 => (m___primary_Machine__to F a0_11_0_3).bind (fun y9 => some ()))

def m___primary_Machine__done (F : Nat) (a0_11_0_3 : Int) (a1_6_0_3 : Int) : Option (Unit) :=
  some ()

def m___primary_Machine__write (F : Nat) : Option (Int × Int) :=
  (m_pglog_Seen F).bind (fun y3 => (m_primary_Verdict F).bind (fun y9 => (m_primary_Next F).bind (fun y16 => (m_slices_Clone___int_int_ F).bind (fun y19 => (m_slices_Clone___byte_byte_ F).bind (fun y25 => (m_digest_New F).bind (fun y30 => (m___digest_Engine__Crc F).bind (fun y33 => (m_pglog_Append F y33.2).bind (fun y35 => (m_pglog_Trim F y35).bind (fun y45 => (m___primary_Machine__stored F y45).bind (fun y56 => (m___primary_Machine__ask F y45).bind (fun y71 => (m___primary_Machine__done F y45 y56).bind (fun y78 => some (y45, y56)))))))))))))

def m___primary_Machine__begin (F : Nat) : Option (Int × Int) :=
  (m___primary_Machine__write F).bind (fun y9 => some (y9.1, y9.2))

def m___primary_Machine__request (F : Nat) : Option (Int × Int) :=
  (m_slices_ContainsFunc___api_Msg_api_Msg_ F).bind (fun y6 => (m_slices_Clone___byte_byte_ F).bind (fun y9 => (m___primary_Machine__begin F).bind (fun y18 => some (y18.1, y18.2))))

def m___primary_Machine__Step_3 (F : Nat) : Option (Int × Int) :=
  (m___primary_Machine__request F).bind (fun y6 => some (y6.1, y6.2))

def m___primary_Machine__Idle_3 (F : Nat) (a0_11_0_3 : Int) : Option (Unit) :=
  some ()

def m_slices_Index___int_int__2 (F : Nat) : Option (Unit) :=
  some ()

def m_slices_Delete___int_int_ (F : Nat) : Option (Unit) :=
  some ()

def m___primary_Machine__to_2 (F : Nat) (a0_11_0_3 : Int) : Option (Unit) :=
  some ()

def m___primary_Machine__answer (F : Nat) (a0_11_0_3 : Int) : Option (Unit) :=
  (m___primary_Machine__to_2 F a0_11_0_3).bind (fun y4 => some ())

def m___primary_Machine__done_2 (F : Nat) (a0_11_0_3 : Int) : Option (Unit) :=
  (m___primary_Machine__answer F a0_11_0_3).bind (fun y11 => some ())

def m___primary_Machine__begin_2 (F : Nat) (a0_11_0_3 : Int) : Option (Unit) :=
  some ()

def m___primary_Machine__acked (F : Nat) (a0_11_0_3 : Int) : Option (Unit) :=
  (m_slices_Index___int_int__2 F).bind (fun y5 => (m_slices_Delete___int_int_ F).bind (fun y10 => (m___primary_Machine__done_2 F a0_11_0_3).bind (fun y14 => (m___primary_Machine__begin_2 F a0_11_0_3).bind (fun y19 => some ()))))

def m___primary_Machine__Step_4 (F : Nat) (a0_11_0_3 : Int) : Option (Unit) :=
  (m___primary_Machine__acked F a0_11_0_3).bind (fun y7 => some ())

def m___primary_Machine__Idle_4 (F : Nat) (a0_11_0_3 : Int) : Option (Unit) :=
  some ()

def m_tholelaw18_lives (F : Nat) : Option (Unit) :=
  (m_primary_New F).bind (fun y3 => (m___primary_Machine__Step_3 F).bind (fun y18 => (m___primary_Machine__Idle_3 F y18.1).bind (fun y49 => (m___primary_Machine__Step_4 F y18.1).bind (fun y54 => (m___primary_Machine__Idle_4 F y18.1).bind (fun y62 => some ())))))

def m_tholelaw18_PrimaryNone (F : Nat) (a0_Kind : Int) (a0_Msg_Kind : Int) (a0_Msg_From : S_api_Node) (a0_Msg_To : S_api_Node) (a0_Msg_Boot : Int) (a0_Msg_Epoch : Int) (a0_Msg_Pg : S_api_Pg) (a0_Msg_Client : Int) (a0_Msg_Number : Int) (a0_Msg_Ballot : Int) (a0_Msg_Slots_n : Nat) (a0_Msg_Incs_n : Nat) (a0_Msg_Changes_n : Nat) (a0_Msg_Info : S_api_Info) (a0_Msg_State_Les : Int) (a0_Msg_State_Tail : S_api_Version) (a0_Msg_State_Log : List S_api_Entry) (a0_Msg_State_Lasts : List S_api_Last) (a0_Msg_State_Items : List S_api_Item) (a0_Msg_Entry : S_api_Entry) (a0_Msg_Object_Name : ByteArray) (a0_Msg_Object_Version : S_api_Version) (a0_Msg_Object_Data : List UInt8) (a0_Msg_Op_Kind : Int) (a0_Msg_Op_Name : ByteArray) (a0_Msg_Op_Data : List UInt8) (a0_Msg_Op_Expect : S_api_Version) (a0_Msg_Items : List S_api_Item) (a0_Msg_Names : List ByteArray) (a0_Msg_Errno : Int) (a0_Object_Name : ByteArray) (a0_Object_Version : S_api_Version) (a0_Object_Data : List UInt8) (a0_Errno : Int) (a0_On : Bool) : Option (Bool) :=
  jn (fun (v66_1 : Bool) => (bif v66_1 then some false else jn (fun (v66_2 : Bool) => (bif v66_2 then some false else (m_tholelaw18_lives F).bind (fun y90 => some true))) (fun (J82 : Bool → Option (Bool)) => (m___primary_Machine__Step_2 F (S_api_Pg.mk 0 0) 0 0 0 0 (S_api_Version.mk 0 0) 0 a0_Msg_Kind a0_Msg_From a0_Msg_To a0_Msg_Boot a0_Msg_Epoch a0_Msg_Pg a0_Msg_Client a0_Msg_Number a0_Msg_Ballot a0_Msg_Slots_n a0_Msg_Incs_n a0_Msg_Changes_n a0_Msg_Info a0_Msg_State_Les a0_Msg_State_Tail a0_Msg_State_Log a0_Msg_State_Lasts a0_Msg_State_Items a0_Msg_Entry a0_Msg_Object_Name a0_Msg_Object_Version a0_Msg_Object_Data a0_Msg_Op_Kind a0_Msg_Op_Name a0_Msg_Op_Data a0_Msg_Op_Expect a0_Msg_Items a0_Msg_Names a0_Msg_Errno).bind (fun y46 => (m_tholelaw18_same F y46.1 y46.2.1 y46.2.2.1 y46.2.2.2.1 y46.2.2.2.2.1 y46.2.2.2.2.2.1 y46.2.2.2.2.2.2.1 y46.2.2.2.2.2.2.2.1 y46.2.2.2.2.2.2.2.2 0 (S_api_Version.mk 0 0) (ByteArray.mk #[]) (S_api_Version.mk 0 0) (ByteArray.mk #[])).bind (fun y48 => (bif !y48 then J82 true else (m___primary_Machine__Tick_2 F (S_api_Pg.mk 0 0) 0 0 0 0 (S_api_Version.mk 0 0) 0).bind (fun y51 => (m_tholelaw18_same F y51.1 y51.2.1 y51.2.2.1 y51.2.2.2.1 y51.2.2.2.2.1 y51.2.2.2.2.2.1 y51.2.2.2.2.2.2.1 y51.2.2.2.2.2.2.2.1 y51.2.2.2.2.2.2.2.2 0 (S_api_Version.mk 0 0) (ByteArray.mk #[]) (S_api_Version.mk 0 0) (ByteArray.mk #[])).bind (fun y53 => (bif !y53 then J82 true else (m___primary_Machine__Got_2 F (S_api_Pg.mk 0 0) 0 0 0 0 (S_api_Version.mk 0 0) 0 a0_Object_Name a0_Object_Version a0_Object_Data a0_Errno).bind (fun y56 => (m_tholelaw18_same F y56.1 y56.2.1 y56.2.2.1 y56.2.2.2.1 y56.2.2.2.2.1 y56.2.2.2.2.2.1 y56.2.2.2.2.2.2.1 y56.2.2.2.2.2.2.2.1 y56.2.2.2.2.2.2.2.2 0 (S_api_Version.mk 0 0) (ByteArray.mk #[]) (S_api_Version.mk 0 0) (ByteArray.mk #[])).bind (fun y58 => (bif !y58 then J82 true else (m___primary_Machine__Hold_2 F (S_api_Pg.mk 0 0) 0 0 0 0 (S_api_Version.mk 0 0) 0 a0_On).bind (fun y61 => (m_tholelaw18_same F y61.1 y61.2.1 y61.2.2.1 y61.2.2.2.1 y61.2.2.2.2.1 y61.2.2.2.2.2.1 y61.2.2.2.2.2.2.1 y61.2.2.2.2.2.2.2.1 y61.2.2.2.2.2.2.2.2 0 (S_api_Version.mk 0 0) (ByteArray.mk #[]) (S_api_Version.mk 0 0) (ByteArray.mk #[])).bind (fun y63 => (bif !y63 then J82 true else (m___primary_Machine__Idle_2 F (S_api_Pg.mk 0 0) 0 0 0 0 (S_api_Version.mk 0 0) 0).bind (fun y66 => (m___primary_Machine__Waiting_2 F (S_api_Pg.mk 0 0) 0 0 0 0 (S_api_Version.mk 0 0) 0).bind (fun y68 => (bif y68 != 0 then J82 true else (m___primary_Machine__Silent_2 F (S_api_Pg.mk 0 0) 0 0 0 0 (S_api_Version.mk 0 0) 0).bind (fun y71 => (m___primary_Machine__State_2 F (S_api_Pg.mk 0 0) 0 0 0 0 (S_api_Version.mk 0 0) 0).bind (fun y73 => J82 (y73.1 != 0))))))))))))))))))))) (fun (J37 : Bool → Option (Bool)) => (m___primary_Machine__Step F a0_Msg_Kind a0_Msg_From a0_Msg_To a0_Msg_Boot a0_Msg_Epoch a0_Msg_Pg a0_Msg_Client a0_Msg_Number a0_Msg_Ballot a0_Msg_Slots_n a0_Msg_Incs_n a0_Msg_Changes_n a0_Msg_Info a0_Msg_State_Les a0_Msg_State_Tail a0_Msg_State_Log a0_Msg_State_Lasts a0_Msg_State_Items a0_Msg_Entry a0_Msg_Object_Name a0_Msg_Object_Version a0_Msg_Object_Data a0_Msg_Op_Kind a0_Msg_Op_Name a0_Msg_Op_Data a0_Msg_Op_Expect a0_Msg_Items a0_Msg_Names a0_Msg_Errno).bind (fun y8 => (m_tholelaw18_same F y8.1 y8.2.1 y8.2.2.1 y8.2.2.2.1 y8.2.2.2.2.1 y8.2.2.2.2.2.1 y8.2.2.2.2.2.2.1 y8.2.2.2.2.2.2.2.1 y8.2.2.2.2.2.2.2.2 0 (S_api_Version.mk 0 0) (ByteArray.mk #[]) (S_api_Version.mk 0 0) (ByteArray.mk #[])).bind (fun y10 => (bif !y10 then J37 true else (m___primary_Machine__Tick F).bind (fun y13 => (m_tholelaw18_same F y13.1 y13.2.1 y13.2.2.1 y13.2.2.2.1 y13.2.2.2.2.1 y13.2.2.2.2.2.1 y13.2.2.2.2.2.2.1 y13.2.2.2.2.2.2.2.1 y13.2.2.2.2.2.2.2.2 0 (S_api_Version.mk 0 0) (ByteArray.mk #[]) (S_api_Version.mk 0 0) (ByteArray.mk #[])).bind (fun y15 => (bif !y15 then J37 true else (m___primary_Machine__Got F a0_Object_Name a0_Object_Version a0_Object_Data a0_Errno).bind (fun y18 => (m_tholelaw18_same F y18.1 y18.2.1 y18.2.2.1 y18.2.2.2.1 y18.2.2.2.2.1 y18.2.2.2.2.2.1 y18.2.2.2.2.2.2.1 y18.2.2.2.2.2.2.2.1 y18.2.2.2.2.2.2.2.2 0 (S_api_Version.mk 0 0) (ByteArray.mk #[]) (S_api_Version.mk 0 0) (ByteArray.mk #[])).bind (fun y20 => (bif !y20 then J37 true else (m___primary_Machine__Hold F a0_On).bind (fun y23 => (m_tholelaw18_same F y23.1 y23.2.1 y23.2.2.1 y23.2.2.2.1 y23.2.2.2.2.1 y23.2.2.2.2.2.1 y23.2.2.2.2.2.2.1 y23.2.2.2.2.2.2.2.1 y23.2.2.2.2.2.2.2.2 0 (S_api_Version.mk 0 0) (ByteArray.mk #[]) (S_api_Version.mk 0 0) (ByteArray.mk #[])).bind (fun y25 => (bif !y25 then J37 true else (m___primary_Machine__Idle F).bind (fun y28 => (m___primary_Machine__Waiting F).bind (fun y30 => (bif y30 != 0 then J37 true else (m___primary_Machine__Silent F).bind (fun y33 => (m___primary_Machine__State F).bind (fun y35 => J37 (y35.1 != 0)))))))))))))))))))

end Go.Proofs.YtjnbkhnebmlilaaGreat
