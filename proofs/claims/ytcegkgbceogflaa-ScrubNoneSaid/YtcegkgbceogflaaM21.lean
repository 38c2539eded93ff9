/-
  CHAPTER 21: the models of its functions.
-/
import Derived.Test.YtcegkgbceogflaaProg
import Derived.Test.YtcegkgbceogflaaGxh
set_option linter.unusedVariables false
set_option linter.unusedSimpArgs false
set_option maxRecDepth 100000
namespace Go.Proofs.Ytcegkgbceogflaa
open Go Go.RowKit Sx

structure S_api_Node where
  Kind : Int
  Id : Int
def S_api_Node.row (x : S_api_Node) : List Value := [.int .i64 x.Kind, .int .i64 x.Id]
def dS_api_Node : S_api_Node := S_api_Node.mk 0 0
def S_api_Node.beq (x y : S_api_Node) : Bool := (x.Kind == y.Kind) && ((x.Id == y.Id) && true)
theorem S_api_Node.beq_iff (x y : S_api_Node) : S_api_Node.beq x y = true ↔ x = y := by
  cases x; cases y; simp [S_api_Node.beq, str_beq]

structure S_api_Pg where
  Pool : Int
  Seed : Int
def S_api_Pg.row (x : S_api_Pg) : List Value := [.int .i64 x.Pool, .int .i64 x.Seed]
def dS_api_Pg : S_api_Pg := S_api_Pg.mk 0 0
def S_api_Pg.beq (x y : S_api_Pg) : Bool := (x.Pool == y.Pool) && ((x.Seed == y.Seed) && true)
theorem S_api_Pg.beq_iff (x y : S_api_Pg) : S_api_Pg.beq x y = true ↔ x = y := by
  cases x; cases y; simp [S_api_Pg.beq, str_beq]

structure S_api_Version where
  Epoch : Int
  N : Int
def S_api_Version.row (x : S_api_Version) : List Value := [.int .i64 x.Epoch, .int .i64 x.N]
def dS_api_Version : S_api_Version := S_api_Version.mk 0 0
def S_api_Version.beq (x y : S_api_Version) : Bool := (x.Epoch == y.Epoch) && ((x.N == y.N) && true)
theorem S_api_Version.beq_iff (x y : S_api_Version) : S_api_Version.beq x y = true ↔ x = y := by
  cases x; cases y; simp [S_api_Version.beq, str_beq]

structure S_api_Info where
  Les : Int
  Head : S_api_Version
  Tail : S_api_Version
  Born : Int
def S_api_Info.row (x : S_api_Info) : List Value := [.int .i64 x.Les, .int .i64 x.Head.Epoch, .int .i64 x.Head.N, .int .i64 x.Tail.Epoch, .int .i64 x.Tail.N, .int .i64 x.Born]
def dS_api_Info : S_api_Info := S_api_Info.mk 0 dS_api_Version dS_api_Version 0
def S_api_Info.beq (x y : S_api_Info) : Bool := (x.Les == y.Les) && ((S_api_Version.beq x.Head y.Head) && ((S_api_Version.beq x.Tail y.Tail) && ((x.Born == y.Born) && true)))
theorem S_api_Info.beq_iff (x y : S_api_Info) : S_api_Info.beq x y = true ↔ x = y := by
  cases x; cases y; simp [S_api_Info.beq, str_beq, S_api_Version.beq_iff, S_api_Version.beq_iff]

structure S_api_Entry where
  Version : S_api_Version
  Remove : Bool
  Errno : Int
  Name : ByteArray
  Client : Int
  Number : Int
def S_api_Entry.row (x : S_api_Entry) : List Value := [.int .i64 x.Version.Epoch, .int .i64 x.Version.N, .bool x.Remove, .int .i64 x.Errno, .string x.Name, .int .i64 x.Client, .int .i64 x.Number]
def dS_api_Entry : S_api_Entry := S_api_Entry.mk dS_api_Version false 0 (ByteArray.mk #[]) 0 0
def S_api_Entry.beq (x y : S_api_Entry) : Bool := (S_api_Version.beq x.Version y.Version) && ((x.Remove == y.Remove) && ((x.Errno == y.Errno) && ((x.Name == y.Name) && ((x.Client == y.Client) && ((x.Number == y.Number) && true)))))
theorem S_api_Entry.beq_iff (x y : S_api_Entry) : S_api_Entry.beq x y = true ↔ x = y := by
  cases x; cases y; simp [S_api_Entry.beq, str_beq, S_api_Version.beq_iff]

structure S_api_Last where
  Client : Int
  Number : Int
  Errno : Int
  Version : S_api_Version
def S_api_Last.row (x : S_api_Last) : List Value := [.int .i64 x.Client, .int .i64 x.Number, .int .i64 x.Errno, .int .i64 x.Version.Epoch, .int .i64 x.Version.N]
def dS_api_Last : S_api_Last := S_api_Last.mk 0 0 0 dS_api_Version
def S_api_Last.beq (x y : S_api_Last) : Bool := (x.Client == y.Client) && ((x.Number == y.Number) && ((x.Errno == y.Errno) && ((S_api_Version.beq x.Version y.Version) && true)))
theorem S_api_Last.beq_iff (x y : S_api_Last) : S_api_Last.beq x y = true ↔ x = y := by
  cases x; cases y; simp [S_api_Last.beq, str_beq, S_api_Version.beq_iff]

structure S_api_Item where
  Name : ByteArray
  Version : S_api_Version
  Crc : Int
def S_api_Item.row (x : S_api_Item) : List Value := [.string x.Name, .int .i64 x.Version.Epoch, .int .i64 x.Version.N, .int .u32 x.Crc]
def dS_api_Item : S_api_Item := S_api_Item.mk (ByteArray.mk #[]) dS_api_Version 0
def S_api_Item.beq (x y : S_api_Item) : Bool := (x.Name == y.Name) && ((S_api_Version.beq x.Version y.Version) && ((x.Crc == y.Crc) && true))
theorem S_api_Item.beq_iff (x y : S_api_Item) : S_api_Item.beq x y = true ↔ x = y := by
  cases x; cases y; simp [S_api_Item.beq, str_beq, S_api_Version.beq_iff]

@[reducible] def r5 (o : Option Addr) (l : List UInt8) : Ent := .rd o 1 (List.map rB l)
@[reducible] def o5 (o : Option Addr) (c : Nat) (l : List UInt8) : Ent := .osl o c 5 1 (List.map rB l)
@[reducible] def r9 (o : Option Addr) (l : List ByteArray) : Ent := .rd o 1 (List.map rS l)
@[reducible] def o9 (o : Option Addr) (c : Nat) (l : List ByteArray) : Ent := .osl o c 9 1 (List.map rS l)
@[reducible] def r40 (o : Option Addr) (l : List S_api_Entry) : Ent := .rd o 7 (List.map S_api_Entry.row l)
@[reducible] def o40 (o : Option Addr) (c : Nat) (l : List S_api_Entry) : Ent := .osl o c 40 7 (List.map S_api_Entry.row l)
@[reducible] def r75 (o : Option Addr) (l : List S_api_Item) : Ent := .rd o 4 (List.map S_api_Item.row l)
@[reducible] def o75 (o : Option Addr) (c : Nat) (l : List S_api_Item) : Ent := .osl o c 75 4 (List.map S_api_Item.row l)
@[reducible] def r164 (o : Option Addr) (l : List S_api_Last) : Ent := .rd o 5 (List.map S_api_Last.row l)
@[reducible] def o164 (o : Option Addr) (c : Nat) (l : List S_api_Last) : Ent := .osl o c 164 5 (List.map S_api_Last.row l)

def m___scrub_Machine__is (F : Nat) : Option (Unit) :=
  some ()

def m___scrub_Machine__Step (F : Nat) (a1_Kind : Int) (a1_From : S_api_Node) (a1_To : S_api_Node) (a1_Boot : Int) (a1_Epoch : Int) (a1_Pg : S_api_Pg) (a1_Client : Int) (a1_Number : Int) (a1_Ballot : Int) (a1_Slots_n : Nat) (a1_Incs_n : Nat) (a1_Changes_n : Nat) (a1_Info : S_api_Info) (a1_State_Les : Int) (a1_State_Tail : S_api_Version) (a1_State_Log : List S_api_Entry) (a1_State_Lasts : List S_api_Last) (a1_State_Items : List S_api_Item) (a1_Entry : S_api_Entry) (a1_Object_Name : ByteArray) (a1_Object_Version : S_api_Version) (a1_Object_Data : List UInt8) (a1_Op_Kind : Int) (a1_Op_Name : ByteArray) (a1_Op_Data : List UInt8) (a1_Op_Expect : S_api_Version) (a1_Items : List S_api_Item) (a1_Names : List ByteArray) (a1_Errno : Int) : Option (Nat) :=
  (m___scrub_Machine__is F).bind (fun y3 => some 0)

def m___scrub_Machine__Tick (F : Nat) : Option (Nat) :=
  (m___scrub_Machine__is F).bind (fun y3 => some 0)

def m___scrub_Machine__Done (F : Nat) : Option (Unit) :=
  (m___scrub_Machine__is F).bind (fun y3 => some ())

def m___scrub_Machine__Fixes (F : Nat) : Option (Nat) :=
  (m___scrub_Machine__Done F).bind (fun y3 => some 0)

def m___scrub_Machine__Lost (F : Nat) : Option (List ByteArray) :=
  (m___scrub_Machine__Done F).bind (fun y3 => some ([] : List ByteArray))

def m_tholelaw21_item (F : Nat) : Option (Unit) :=
  some ()

def m_tholelaw21_item_2 (F : Nat) : Option (Unit) :=
  some ()

def m_slices_Index___api_Item_api_Item_ (F : Nat) : Option (Unit) :=
  some ()

def m_slices_Contains___api_Item_api_Item_ (F : Nat) : Option (Unit) :=
  (m_slices_Index___api_Item_api_Item_ F).bind (fun y3 => some ())

def m_slices_Index___string_string_ (F : Nat) : Option (Unit) :=
  some ()

def m_slices_Contains___string_string_ (F : Nat) : Option (Unit) :=
  (m_slices_Index___string_string_ F).bind (fun y3 => some ())

def m__scrub_Copy__good (F : Nat) : Option (Unit) :=
  (m_slices_Contains___api_Item_api_Item_ F).bind (fun y3 => (m_slices_Contains___string_string_ F).bind (fun y5 => some ()))

def m_scrub_Compare_1 (F : Nat) : Option (Unit) :=
  (m__scrub_Copy__good F).bind (fun y3 => some ())

def m_slices_IndexFunc___scrub_Copy_scrub_Copy_ (F : Nat) : Option (Unit) :=
  (m_scrub_Compare_1 F).bind (fun y6 => some ())

def m_slices_Index___api_Item_api_Item__2 (F : Nat) : Option (Unit) :=
  some ()

def m_slices_Contains___api_Item_api_Item__2 (F : Nat) : Option (Unit) :=
  (m_slices_Index___api_Item_api_Item__2 F).bind (fun y3 => some ())

def m__scrub_Copy__good_2 (F : Nat) : Option (Unit) :=
  (m_slices_Contains___api_Item_api_Item__2 F).bind (fun y3 => some ())

def m_math_bits_Len64 (F : Nat) : Option (Unit) :=
  some ()

def m_math_bits_Len (F : Nat) : Option (Unit) :=
  (m_math_bits_Len64 F).bind (fun y3 => some ())

def m_slices_insertionSortOrdered_int_ (F : Nat) : Option (Unit) :=
  some ()

def m_slices_pdqsortOrdered_int_ (F : Nat) : Option (Unit) :=
  (m_slices_insertionSortOrdered_int_ F).bind (fun y6 => some ())

def m_slices_Sort___int_int_ (F : Nat) : Option (Unit) :=
  (m_math_bits_Len F).bind (fun y3 => (m_slices_pdqsortOrdered_int_ F).bind (fun y5 => some ()))

def m_slices_insertionSortCmpFunc_scrub_Fix_ (F : Nat) : Option (Unit) :=
  some ()

def m_slices_stableCmpFunc_scrub_Fix_ (F : Nat) : Option (Unit) :=
  (m_slices_insertionSortCmpFunc_scrub_Fix_ F).bind (fun y5 => some ())

def m_slices_SortStableFunc___scrub_Fix_scrub_Fix_ (F : Nat) : Option (Unit) :=
  (m_slices_stableCmpFunc_scrub_Fix_ F).bind (fun y2 => some ())

def m_math_bits_Len64_2 (F : Nat) : Option (Unit) :=
  some ()

def m_math_bits_Len_2 (F : Nat) : Option (Unit) :=
  (m_math_bits_Len64_2 F).bind (fun y3 => some ())

def m_slices_insertionSortOrdered_string_ (F : Nat) : Option (Unit) :=
  some ()

def m_slices_pdqsortOrdered_string_ (F : Nat) : Option (Unit) :=
  (m_slices_insertionSortOrdered_string_ F).bind (fun y6 => some ())

def m_slices_Sort___string_string_ (F : Nat) : Option (Unit) :=
  (m_math_bits_Len_2 F).bind (fun y3 => (m_slices_pdqsortOrdered_string_ F).bind (fun y5 => some ()))

def m_scrub_Compare (F : Nat) : Option (Unit) :=
  (m_slices_IndexFunc___scrub_Copy_scrub_Copy_ F).bind (fun y8 => (m__scrub_Copy__good F).bind (fun y16 => (m__scrub_Copy__good_2 F).bind (fun y22 => (m_slices_Sort___int_int_ F).bind (fun y29 => (m_slices_SortStableFunc___scrub_Fix_scrub_Fix_ F).bind (fun y35 => (m_slices_Sort___string_string_ F).bind (fun y38 => some ()))))))

def m_tholeref01_Ints (F : Nat) : Option (Unit) :=
  some ()

def m_tholelaw21_lives (F : Nat) : Option (Unit) :=
  (m_tholelaw21_item F).bind (fun y3 => (m_tholelaw21_item F).bind (fun y6 => (m_tholelaw21_item_2 F).bind (fun y8 => (m_scrub_Compare F).bind (fun y10 => (m_tholeref01_Ints F).bind (fun y17 => some ())))))

def m_tholelaw21_ScrubNone (F : Nat) (a0_Kind : Int) (a0_From : S_api_Node) (a0_To : S_api_Node) (a0_Boot : Int) (a0_Epoch : Int) (a0_Pg : S_api_Pg) (a0_Client : Int) (a0_Number : Int) (a0_Ballot : Int) (a0_Slots_n : Nat) (a0_Incs_n : Nat) (a0_Changes_n : Nat) (a0_Info : S_api_Info) (a0_State_Les : Int) (a0_State_Tail : S_api_Version) (a0_State_Log : List S_api_Entry) (a0_State_Lasts : List S_api_Last) (a0_State_Items : List S_api_Item) (a0_Entry : S_api_Entry) (a0_Object_Name : ByteArray) (a0_Object_Version : S_api_Version) (a0_Object_Data : List UInt8) (a0_Op_Kind : Int) (a0_Op_Name : ByteArray) (a0_Op_Data : List UInt8) (a0_Op_Expect : S_api_Version) (a0_Items : List S_api_Item) (a0_Names : List ByteArray) (a0_Errno : Int) : Option (Bool) :=
  (m___scrub_Machine__Step F a0_Kind a0_From a0_To a0_Boot a0_Epoch a0_Pg a0_Client a0_Number a0_Ballot a0_Slots_n a0_Incs_n a0_Changes_n a0_Info a0_State_Les a0_State_Tail a0_State_Log a0_State_Lasts a0_State_Items a0_Entry a0_Object_Name a0_Object_Version a0_Object_Data a0_Op_Kind a0_Op_Name a0_Op_Data a0_Op_Expect a0_Items a0_Names a0_Errno).bind (fun y4 => (bif ((y4 : Nat) : Int) == 0 then (m___scrub_Machine__Tick F).bind (fun y10 => (bif ((y10 : Nat) : Int) == 0 then (m___scrub_Machine__Done F).bind (fun y16 => (m___scrub_Machine__Fixes F).bind (fun y18 => (bif ((y18 : Nat) : Int) == 0 then (m___scrub_Machine__Lost F).bind (fun y24 => (bif ((y24.length : Nat) : Int) == 0 then (m_tholelaw21_lives F).bind (fun y30 => some true) else some false)) else some false))) else some false)) else some false))

end Go.Proofs.Ytcegkgbceogflaa
