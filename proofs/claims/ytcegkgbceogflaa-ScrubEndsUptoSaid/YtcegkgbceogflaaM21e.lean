/-
  CHAPTER 21e: the models of its functions.
-/
import Derived.Test.YtcegkgbceogflaaProg
import Derived.Test.YtcegkgbceogflaaS21d
set_option linter.unusedVariables false
set_option linter.unusedSimpArgs false
set_option maxRecDepth 100000
namespace Go.Proofs.Ytcegkgbceogflaa
open Go Go.RowKit Sx

structure S_api_Pg where
  Pool : Int
  Seed : Int
def S_api_Pg.row (x : S_api_Pg) : List Value := [.int .i64 x.Pool, .int .i64 x.Seed]
def S_api_Pg.beq (x y : S_api_Pg) : Bool := (x.Pool == y.Pool) && ((x.Seed == y.Seed) && true)
theorem S_api_Pg.beq_iff (x y : S_api_Pg) : S_api_Pg.beq x y = true ↔ x = y := by
  cases x; cases y; simp [S_api_Pg.beq, str_beq]

structure S_api_Version where
  Epoch : Int
  N : Int
def S_api_Version.row (x : S_api_Version) : List Value := [.int .i64 x.Epoch, .int .i64 x.N]
def S_api_Version.beq (x y : S_api_Version) : Bool := (x.Epoch == y.Epoch) && ((x.N == y.N) && true)
theorem S_api_Version.beq_iff (x y : S_api_Version) : S_api_Version.beq x y = true ↔ x = y := by
  cases x; cases y; simp [S_api_Version.beq, str_beq]

structure S_api_Entry where
  Version : S_api_Version
  Remove : Bool
  Errno : Int
  Name : ByteArray
  Client : Int
  Number : Int
def S_api_Entry.row (x : S_api_Entry) : List Value := [.int .i64 x.Version.Epoch, .int .i64 x.Version.N, .bool x.Remove, .int .i64 x.Errno, .string x.Name, .int .i64 x.Client, .int .i64 x.Number]
def S_api_Entry.beq (x y : S_api_Entry) : Bool := (S_api_Version.beq x.Version y.Version) && ((x.Remove == y.Remove) && ((x.Errno == y.Errno) && ((x.Name == y.Name) && ((x.Client == y.Client) && ((x.Number == y.Number) && true)))))
theorem S_api_Entry.beq_iff (x y : S_api_Entry) : S_api_Entry.beq x y = true ↔ x = y := by
  cases x; cases y; simp [S_api_Entry.beq, str_beq, S_api_Version.beq_iff]

structure S_api_Last where
  Client : Int
  Number : Int
  Errno : Int
  Version : S_api_Version
def S_api_Last.row (x : S_api_Last) : List Value := [.int .i64 x.Client, .int .i64 x.Number, .int .i64 x.Errno, .int .i64 x.Version.Epoch, .int .i64 x.Version.N]
def S_api_Last.beq (x y : S_api_Last) : Bool := (x.Client == y.Client) && ((x.Number == y.Number) && ((x.Errno == y.Errno) && ((S_api_Version.beq x.Version y.Version) && true)))
theorem S_api_Last.beq_iff (x y : S_api_Last) : S_api_Last.beq x y = true ↔ x = y := by
  cases x; cases y; simp [S_api_Last.beq, str_beq, S_api_Version.beq_iff]

structure S_api_Item where
  Name : ByteArray
  Version : S_api_Version
  Crc : Int
def S_api_Item.row (x : S_api_Item) : List Value := [.string x.Name, .int .i64 x.Version.Epoch, .int .i64 x.Version.N, .int .u32 x.Crc]
def S_api_Item.beq (x y : S_api_Item) : Bool := (x.Name == y.Name) && ((S_api_Version.beq x.Version y.Version) && ((x.Crc == y.Crc) && true))
theorem S_api_Item.beq_iff (x y : S_api_Item) : S_api_Item.beq x y = true ↔ x = y := by
  cases x; cases y; simp [S_api_Item.beq, str_beq, S_api_Version.beq_iff]

structure S_api_Msg_n where
  c0 : Int
  c1 : Int
  c2 : Int
  c3 : Int
  c4 : Int
  c5 : Int
  c6 : Int
  c7 : Int
  c8 : Int
  c9 : Int
  c10 : Int
  c11 : Int
  c15 : Int
  c16 : Int
  c17 : Int
  c18 : Int
  c19 : Int
  c20 : Int
  c21 : Int
  c22 : Int
  c23 : Int
  c27 : Int
  c28 : Int
  c29 : Bool
  c30 : Int
  c31 : ByteArray
  c32 : Int
  c33 : Int
  c34 : ByteArray
  c35 : Int
  c36 : Int
  c38 : Int
  c39 : ByteArray
  c41 : Int
  c42 : Int
  c45 : Int
def S_api_Msg_n.row (x : S_api_Msg_n) : List Value := [.int .i64 x.c0, .int .i64 x.c1, .int .i64 x.c2, .int .i64 x.c3, .int .i64 x.c4, .int .i64 x.c5, .int .i64 x.c6, .int .i64 x.c7, .int .i64 x.c8, .int .i64 x.c9, .int .i64 x.c10, .int .i64 x.c11, .slice none 0 0, .slice none 0 0, .slice none 0 0, .int .i64 x.c15, .int .i64 x.c16, .int .i64 x.c17, .int .i64 x.c18, .int .i64 x.c19, .int .i64 x.c20, .int .i64 x.c21, .int .i64 x.c22, .int .i64 x.c23, .slice none 0 0, .slice none 0 0, .slice none 0 0, .int .i64 x.c27, .int .i64 x.c28, .bool x.c29, .int .i64 x.c30, .string x.c31, .int .i64 x.c32, .int .i64 x.c33, .string x.c34, .int .i64 x.c35, .int .i64 x.c36, .slice none 0 0, .int .i64 x.c38, .string x.c39, .slice none 0 0, .int .i64 x.c41, .int .i64 x.c42, .slice none 0 0, .slice none 0 0, .int .i64 x.c45]
structure S_api_Node where
  Kind : Int
  Id : Int
def S_api_Node.row (x : S_api_Node) : List Value := [.int .i64 x.Kind, .int .i64 x.Id]
def S_api_Node.beq (x y : S_api_Node) : Bool := (x.Kind == y.Kind) && ((x.Id == y.Id) && true)
theorem S_api_Node.beq_iff (x y : S_api_Node) : S_api_Node.beq x y = true ↔ x = y := by
  cases x; cases y; simp [S_api_Node.beq, str_beq]

structure S_scrub_Copy where
  Osd : Int
  Items : List S_api_Item
  Bad : List ByteArray
def dS_scrub_Copy : S_scrub_Copy := S_scrub_Copy.mk 0 ([] : List S_api_Item) ([] : List ByteArray)

structure S_scrub_Fix where
  Name : ByteArray
  Version : S_api_Version
  From : Int
  To : List Int
@[reducible] def nR60 (h : Hd) (x : S_scrub_Copy) : List Value := [.int .i64 x.Osd, .slice ((h 0).1) x.Items.length ((h 0).2), .slice ((h 1).1) x.Bad.length ((h 1).2)]
@[reducible] def nI60 (h : Hd) (x : S_scrub_Copy) : List Ent := [.osl (h 0).1 (h 0).2 75 4 (List.map S_api_Item.row x.Items), .osl (h 1).1 (h 1).2 9 1 (List.map rS x.Bad)]
@[reducible] def nJ60 (h : Hd) (x : S_scrub_Copy) : List Ent := [.rd (h 0).1 4 (List.map S_api_Item.row x.Items), Ent.fact (x.Items.length ≤ (h 0).2), .rd (h 1).1 1 (List.map rS x.Bad), Ent.fact (x.Bad.length ≤ (h 1).2)]
theorem nC60 (h : Hd) (x : S_scrub_Copy) : ∀ e' ∈ nJ60 h x, ∃ e ∈ nI60 h x, Cov e e' := by
  intro e' he
  simp only [List.mem_cons, List.not_mem_nil, or_false] at he
  rcases he with rfl | rfl | rfl | rfl
  · exact ⟨_, .head _, Cov.osl_rd⟩
  · exact ⟨_, .head _, Cov.osl_fact⟩
  · exact ⟨_, (.tail _ (.head _)), Cov.osl_rd⟩
  · exact ⟨_, (.tail _ (.head _)), Cov.osl_fact⟩
@[reducible] def nR78 (h : Hd) (x : S_scrub_Fix) : List Value := [.string x.Name, .int .i64 x.Version.Epoch, .int .i64 x.Version.N, .int .i64 x.From, .slice ((h 0).1) x.To.length ((h 0).2)]
@[reducible] def nI78 (h : Hd) (x : S_scrub_Fix) : List Ent := [.osl (h 0).1 (h 0).2 3 1 (List.map rI x.To)]
theorem nF60 (h : Hd) (x : S_scrub_Copy) : ∀ e ∈ nI60 h x, ∃ N, ∀ k, e.foot k → k = N := by
  intro e he
  simp only [List.mem_cons, List.not_mem_nil, or_false] at he
  rcases he with rfl | rfl <;> exact osl_one
theorem nZ60 : ∀ e ∈ nJ60 nilH dS_scrub_Copy, ∀ w, e.holds w ∧ ∀ b, ¬ e.foot b := by
  intro e he w
  simp only [List.mem_cons, List.not_mem_nil, or_false] at he
  rcases he with rfl | rfl | rfl | rfl
  · exact ⟨fun h => absurd rfl h, fun b hb => hb.1 rfl⟩
  · exact ⟨Nat.le_refl _, fun b hb => hb⟩
  · exact ⟨fun h => absurd rfl h, fun b hb => hb.1 rfl⟩
  · exact ⟨Nat.le_refl _, fun b hb => hb⟩

@[reducible] def r3 (o : Option Addr) (l : List Int) : Ent := .rd o 1 (List.map rI l)
@[reducible] def o3 (o : Option Addr) (c : Nat) (l : List Int) : Ent := .osl o c 3 1 (List.map rI l)
@[reducible] def r9 (o : Option Addr) (l : List ByteArray) : Ent := .rd o 1 (List.map rS l)
@[reducible] def o9 (o : Option Addr) (c : Nat) (l : List ByteArray) : Ent := .osl o c 9 1 (List.map rS l)
@[reducible] def r40 (o : Option Addr) (l : List S_api_Entry) : Ent := .rd o 7 (List.map S_api_Entry.row l)
@[reducible] def o40 (o : Option Addr) (c : Nat) (l : List S_api_Entry) : Ent := .osl o c 40 7 (List.map S_api_Entry.row l)
@[reducible] def o48 (o : Option Addr) (c : Nat) (l : List S_api_Msg_n) : Ent := .osl o c 48 46 (List.map S_api_Msg_n.row l)
@[reducible] def r75 (o : Option Addr) (l : List S_api_Item) : Ent := .rd o 4 (List.map S_api_Item.row l)
@[reducible] def o75 (o : Option Addr) (c : Nat) (l : List S_api_Item) : Ent := .osl o c 75 4 (List.map S_api_Item.row l)
@[reducible] def r164 (o : Option Addr) (l : List S_api_Last) : Ent := .rd o 5 (List.map S_api_Last.row l)
@[reducible] def o164 (o : Option Addr) (c : Nat) (l : List S_api_Last) : Ent := .osl o c 164 5 (List.map S_api_Last.row l)

@[reducible] def kc0 (p0 : Int) (p1 : Int) (p2 : Int) (p3 : Int) (p4 : Int) (p5 : Option Addr) (p6 : Nat) (p7 : Nat) (p8 : Int) (p9 : Int) (p10 : Int) (p11 : Option Addr) (p12 : Nat) (p13 : Nat) (p14 : Option Addr) (p15 : Nat) (p16 : Nat) (p17 : Option Addr) (p18 : Nat) (p19 : Nat) (p20 : Int) (p21 : Option Addr) (p22 : Nat) (p23 : Nat) (p24 : Option Addr) (p25 : Nat) (p26 : Nat) : List Value := [.int .i64 p0, .int .i64 p1, .int .i64 p2, .int .i64 p3, .int .i64 p4, .slice p5 p6 p7, .int .i64 p8, .int .i64 p9, .int .i64 p10, .slice p11 p12 p13, .slice p14 p15 p16, .slice p17 p18 p19, .int .i64 p20, .slice p21 p22 p23, .slice p24 p25 p26]
@[reducible] def kc1 : List Value := [.string (ByteArray.mk #[]), .int .i64 0, .int .i64 0, .int .u32 0]
@[reducible] def kc2 : List Value := [.string (ByteArray.mk #[97]), .int .i64 1, .int .i64 1, .int .u32 7]
@[reducible] def kc3 (p0 : Option Addr) : List Value := [.int .i64 0, .int .i64 0, .int .i64 0, .slice none 0 0, .slice none 0 0, .slice p0 1 1]
@[reducible] def kc4 : List Value := [.string (ByteArray.mk #[97]), .int .i64 1, .int .i64 1, .int .u32 8]
@[reducible] def kc5 (p0 : Option Addr) (p1 : Nat) : List Value := [.int .i64 0, .int .i64 0, .int .i64 0, .slice none 0 0, .slice none 0 0, .slice p0 1 p1]
@[reducible] def kc6 (p0 : Option Addr) (p1 : Nat) : List Value := [.string (ByteArray.mk #[97]), .int .i64 1, .int .i64 1, .int .i64 0, .slice p0 1 p1]
@[reducible] def kc7 (p0 : Int) (p1 : Int) (p2 : Int) (p3 : Option Addr) (p4 : Nat) (p5 : Nat) (p6 : Option Addr) (p7 : Nat) (p8 : Nat) (p9 : Option Addr) (p10 : Nat) (p11 : Nat) : List Value := [.int .i64 p0, .int .i64 p1, .int .i64 p2, .slice p3 p4 p5, .slice p6 p7 p8, .slice p9 p10 p11]
@[reducible] def kc8 : List Value := [.int .i64 0, .int .i64 0, .int .i64 0, .slice none 0 0, .slice none 0 0, .slice none 0 0]
@[reducible] def kc9 (p0 : Option Addr) (p1 : Nat) (p2 : Nat) (p3 : Int) (p4 : Int) (p5 : Int) (p6 : Option Addr) (p7 : Nat) (p8 : Nat) (p9 : Option Addr) (p10 : Nat) (p11 : Nat) (p12 : Option Addr) (p13 : Nat) (p14 : Nat) : List Value := [.bool true, .int .i64 0, .int .i64 0, .int .i64 0, .int .i64 0, .int .i64 0, .int .i64 0, .int .i64 0, .int .i64 0, .int .i64 0, .int .i64 0, .int .i64 0, .int .i64 0, .slice none 0 0, .slice none 0 0, .slice none 0 0, .int .i64 0, .int .i64 0, .int .i64 0, .int .i64 0, .int .i64 0, .int .i64 0, .int .i64 0, .int .i64 0, .int .i64 0, .slice none 0 0, .slice none 0 0, .slice none 0 0, .int .i64 0, .int .i64 0, .bool false, .int .i64 0, .string (ByteArray.mk #[]), .int .i64 0, .int .i64 0, .string (ByteArray.mk #[]), .int .i64 0, .int .i64 0, .slice none 0 0, .int .i64 0, .string (ByteArray.mk #[]), .slice none 0 0, .int .i64 0, .int .i64 0, .slice none 0 0, .slice none 0 0, .int .i64 0, .slice p0 p1 p2, .int .i64 p3, .int .i64 p4, .int .i64 p5, .slice p6 p7 p8, .slice p9 p10 p11, .slice p12 p13 p14, .map none, .slice none 0 0, .slice none 0 0]
@[reducible] def kc10 (p0 : Int) (p1 : Int) (p2 : Int) (p3 : Int) (p4 : Int) : List Value := [.int .i64 40, .int .i64 2, .int .i64 p0, .int .i64 0, .int .i64 0, .int .i64 p1, .int .i64 p2, .int .i64 p3, .int .i64 p4, .int .i64 0, .int .i64 0, .int .i64 0, .slice none 0 0, .slice none 0 0, .slice none 0 0, .int .i64 0, .int .i64 0, .int .i64 0, .int .i64 0, .int .i64 0, .int .i64 0, .int .i64 0, .int .i64 0, .int .i64 0, .slice none 0 0, .slice none 0 0, .slice none 0 0, .int .i64 0, .int .i64 0, .bool false, .int .i64 0, .string (ByteArray.mk #[]), .int .i64 0, .int .i64 0, .string (ByteArray.mk #[]), .int .i64 0, .int .i64 0, .slice none 0 0, .int .i64 0, .string (ByteArray.mk #[]), .slice none 0 0, .int .i64 0, .int .i64 0, .slice none 0 0, .slice none 0 0, .int .i64 0]
@[reducible] def kc11 (p0 : Int) (p1 : Int) (p2 : Int) (p3 : Int) (p4 : Int) (p5 : Option Addr) (p6 : Nat) (p7 : Nat) (p8 : Int) (p9 : Int) (p10 : Int) (p11 : Option Addr) (p12 : Nat) (p13 : Nat) (p14 : Option Addr) (p15 : Nat) (p16 : Nat) (p17 : Option Addr) (p18 : Nat) (p19 : Nat) (p20 : Value) (p21 : Value) : List Value := [.bool true, .int .i64 40, .int .i64 2, .int .i64 p0, .int .i64 0, .int .i64 0, .int .i64 p1, .int .i64 p2, .int .i64 p3, .int .i64 p4, .int .i64 0, .int .i64 0, .int .i64 0, .slice none 0 0, .slice none 0 0, .slice none 0 0, .int .i64 0, .int .i64 0, .int .i64 0, .int .i64 0, .int .i64 0, .int .i64 0, .int .i64 0, .int .i64 0, .int .i64 0, .slice none 0 0, .slice none 0 0, .slice none 0 0, .int .i64 0, .int .i64 0, .bool false, .int .i64 0, .string (ByteArray.mk #[]), .int .i64 0, .int .i64 0, .string (ByteArray.mk #[]), .int .i64 0, .int .i64 0, .slice none 0 0, .int .i64 0, .string (ByteArray.mk #[]), .slice none 0 0, .int .i64 0, .int .i64 0, .slice none 0 0, .slice none 0 0, .int .i64 0, .slice p5 p6 p7, .int .i64 p8, .int .i64 p9, .int .i64 p10, .slice p11 p12 p13, .slice p14 p15 p16, .slice p17 p18 p19, .map none, p20, p21]
@[reducible] def kc13 (p0 : Int) (p1 : Int) (p2 : Int) (p3 : Int) (p4 : Int) (p5 : Option Addr) (p6 : Nat) (p7 : Nat) (p8 : Int) (p9 : Int) (p10 : Int) (p11 : Option Addr) (p12 : Nat) (p13 : Nat) (p14 : Option Addr) (p15 : Nat) (p16 : Nat) (p17 : Option Addr) (p18 : Nat) (p19 : Nat) (p20 : Nat) (p21 : Value) (p22 : Value) : List Value := [.bool true, .int .i64 40, .int .i64 2, .int .i64 p0, .int .i64 0, .int .i64 0, .int .i64 p1, .int .i64 p2, .int .i64 p3, .int .i64 p4, .int .i64 0, .int .i64 0, .int .i64 0, .slice none 0 0, .slice none 0 0, .slice none 0 0, .int .i64 0, .int .i64 0, .int .i64 0, .int .i64 0, .int .i64 0, .int .i64 0, .int .i64 0, .int .i64 0, .int .i64 0, .slice none 0 0, .slice none 0 0, .slice none 0 0, .int .i64 0, .int .i64 0, .bool false, .int .i64 0, .string (ByteArray.mk #[]), .int .i64 0, .int .i64 0, .string (ByteArray.mk #[]), .int .i64 0, .int .i64 0, .slice none 0 0, .int .i64 0, .string (ByteArray.mk #[]), .slice none 0 0, .int .i64 0, .int .i64 0, .slice none 0 0, .slice none 0 0, .int .i64 0, .slice p5 p6 p7, .int .i64 p8, .int .i64 p9, .int .i64 p10, .slice p11 p12 p13, .slice p14 p15 p16, .slice p17 p18 p19, .map (some p20), p21, p22]
@[reducible] def kc14 (p0 : ByteArray) (p1 : Int) (p2 : Int) (p3 : Int) : List Value := [.string p0, .int .i64 p1, .int .i64 p2, .int .u32 p3]
@[reducible] def kc15 (p0 : Int) (p1 : Int) (p2 : Int) (p3 : Int) (p4 : Int) (p5 : Option Addr) (p6 : Nat) (p7 : Nat) (p8 : Int) (p9 : Int) (p10 : Int) (p11 : Option Addr) (p12 : Nat) (p13 : Nat) (p14 : Option Addr) (p15 : Nat) (p16 : Nat) (p17 : Option Addr) (p18 : Nat) (p19 : Nat) (p20 : Nat) (p21 : Option Addr) (p22 : Nat) (p23 : Nat) (p24 : Option Addr) (p25 : Nat) (p26 : Nat) : List Value := [.bool true, .int .i64 40, .int .i64 2, .int .i64 p0, .int .i64 0, .int .i64 0, .int .i64 p1, .int .i64 p2, .int .i64 p3, .int .i64 p4, .int .i64 0, .int .i64 0, .int .i64 0, .slice none 0 0, .slice none 0 0, .slice none 0 0, .int .i64 0, .int .i64 0, .int .i64 0, .int .i64 0, .int .i64 0, .int .i64 0, .int .i64 0, .int .i64 0, .int .i64 0, .slice none 0 0, .slice none 0 0, .slice none 0 0, .int .i64 0, .int .i64 0, .bool false, .int .i64 0, .string (ByteArray.mk #[]), .int .i64 0, .int .i64 0, .string (ByteArray.mk #[]), .int .i64 0, .int .i64 0, .slice none 0 0, .int .i64 0, .string (ByteArray.mk #[]), .slice none 0 0, .int .i64 0, .int .i64 0, .slice none 0 0, .slice none 0 0, .int .i64 0, .slice p5 p6 p7, .int .i64 p8, .int .i64 p9, .int .i64 p10, .slice p11 p12 p13, .slice p14 p15 p16, .slice p17 p18 p19, .map (some p20), .slice p21 p22 p23, .slice p24 p25 p26]
@[reducible] def kc16 (p0 : Int) (p1 : Int) (p2 : Int) (p3 : Int) (p4 : Int) (p5 : Int) : List Value := [.int .i64 40, .int .i64 2, .int .i64 p0, .int .i64 2, .int .i64 p1, .int .i64 p2, .int .i64 p3, .int .i64 p4, .int .i64 p5, .int .i64 0, .int .i64 0, .int .i64 0, .slice none 0 0, .slice none 0 0, .slice none 0 0, .int .i64 0, .int .i64 0, .int .i64 0, .int .i64 0, .int .i64 0, .int .i64 0, .int .i64 0, .int .i64 0, .int .i64 0, .slice none 0 0, .slice none 0 0, .slice none 0 0, .int .i64 0, .int .i64 0, .bool false, .int .i64 0, .string (ByteArray.mk #[]), .int .i64 0, .int .i64 0, .string (ByteArray.mk #[]), .int .i64 0, .int .i64 0, .slice none 0 0, .int .i64 0, .string (ByteArray.mk #[]), .slice none 0 0, .int .i64 0, .int .i64 0, .slice none 0 0, .slice none 0 0, .int .i64 0]
@[reducible] def kc17 (p0 : Int) (p1 : Int) (p2 : Int) (p3 : Int) (p4 : Int) (p5 : Int) (p6 : Int) (p7 : Int) (p8 : Int) (p9 : Int) (p10 : Int) (p11 : Int) (p12 : Int) (p13 : Int) (p14 : Int) (p15 : Int) (p16 : Int) (p17 : Int) (p18 : Int) (p19 : Int) (p20 : Int) (p21 : Int) (p22 : Int) (p23 : Bool) (p24 : Int) (p25 : ByteArray) (p26 : Int) (p27 : Int) (p28 : ByteArray) (p29 : Int) (p30 : Int) (p31 : Int) (p32 : ByteArray) (p33 : Int) (p34 : Int) (p35 : Int) : List Value := [.int .i64 p0, .int .i64 p1, .int .i64 p2, .int .i64 p3, .int .i64 p4, .int .i64 p5, .int .i64 p6, .int .i64 p7, .int .i64 p8, .int .i64 p9, .int .i64 p10, .int .i64 p11, .slice none 0 0, .slice none 0 0, .slice none 0 0, .int .i64 p12, .int .i64 p13, .int .i64 p14, .int .i64 p15, .int .i64 p16, .int .i64 p17, .int .i64 p18, .int .i64 p19, .int .i64 p20, .slice none 0 0, .slice none 0 0, .slice none 0 0, .int .i64 p21, .int .i64 p22, .bool p23, .int .i64 p24, .string p25, .int .i64 p26, .int .i64 p27, .string p28, .int .i64 p29, .int .i64 p30, .slice none 0 0, .int .i64 p31, .string p32, .slice none 0 0, .int .i64 p33, .int .i64 p34, .slice none 0 0, .slice none 0 0, .int .i64 p35]
@[reducible] def kc18 (p0 : Int) (p1 : Int) (p2 : Int) (p3 : Int) (p4 : Int) (p5 : Int) (p6 : Int) (p7 : Option Addr) (p8 : Nat) (p9 : Nat) (p10 : Option Addr) (p11 : Nat) (p12 : Nat) : List Value := [.int .i64 41, .int .i64 p0, .int .i64 p1, .int .i64 p2, .int .i64 p3, .int .i64 0, .int .i64 p4, .int .i64 p5, .int .i64 p6, .int .i64 0, .int .i64 0, .int .i64 0, .slice none 0 0, .slice none 0 0, .slice none 0 0, .int .i64 0, .int .i64 0, .int .i64 0, .int .i64 0, .int .i64 0, .int .i64 0, .int .i64 0, .int .i64 0, .int .i64 0, .slice none 0 0, .slice none 0 0, .slice none 0 0, .int .i64 0, .int .i64 0, .bool false, .int .i64 0, .string (ByteArray.mk #[]), .int .i64 0, .int .i64 0, .string (ByteArray.mk #[]), .int .i64 0, .int .i64 0, .slice none 0 0, .int .i64 0, .string (ByteArray.mk #[]), .slice none 0 0, .int .i64 0, .int .i64 0, .slice p7 p8 p9, .slice p10 p11 p12, .int .i64 0]

def m_tholelaw21_item (F : Nat) : Option (Unit) :=
  some ()

def m_tholelaw21_item_2 (F : Nat) : Option (Unit) :=
  some ()

def m_slices_Index___api_Item_api_Item_ (F : Nat) : Option (Unit) :=
  some ()

def m_slices_Contains___api_Item_api_Item_ (F : Nat) : Option (Unit) :=
  (m_slices_Index___api_Item_api_Item_ F).bind (fun y3 => some ())

def m_slices_Index___string_string_ (F : Nat) : Option (Unit) :=
  some ()

def m_slices_Contains___string_string_ (F : Nat) : Option (Unit) :=
  (m_slices_Index___string_string_ F).bind (fun y3 => some ())

def m__scrub_Copy__good (F : Nat) : Option (Unit) :=
  (m_slices_Contains___api_Item_api_Item_ F).bind (fun y3 => (m_slices_Contains___string_string_ F).bind (fun y5 => some ()))

def m_scrub_Compare_1 (F : Nat) : Option (Unit) :=
  (m__scrub_Copy__good F).bind (fun y3 => some ())

def m_slices_IndexFunc___scrub_Copy_scrub_Copy_ (F : Nat) : Option (Unit) :=
  (m_scrub_Compare_1 F).bind (fun y6 => some ())

def m_slices_Index___api_Item_api_Item__2 (F : Nat) : Option (Unit) :=
  some ()

def m_slices_Contains___api_Item_api_Item__2 (F : Nat) : Option (Unit) :=
  (m_slices_Index___api_Item_api_Item__2 F).bind (fun y3 => some ())

def m__scrub_Copy__good_2 (F : Nat) : Option (Unit) :=
  (m_slices_Contains___api_Item_api_Item__2 F).bind (fun y3 => some ())

def m_math_bits_Len64 (F : Nat) : Option (Unit) :=
  some ()

def m_math_bits_Len (F : Nat) : Option (Unit) :=
  (m_math_bits_Len64 F).bind (fun y3 => some ())

def m_slices_insertionSortOrdered_int_ (F : Nat) : Option (Unit) :=
  some ()

def m_slices_pdqsortOrdered_int_ (F : Nat) : Option (Unit) :=
  (m_slices_insertionSortOrdered_int_ F).bind (fun y6 => some ())

def m_slices_Sort___int_int_ (F : Nat) : Option (Unit) :=
  (m_math_bits_Len F).bind (fun y3 => (m_slices_pdqsortOrdered_int_ F).bind (fun y5 => some ()))

def m_slices_insertionSortCmpFunc_scrub_Fix_ (F : Nat) : Option (Unit) :=
  some ()

def m_slices_stableCmpFunc_scrub_Fix_ (F : Nat) : Option (Unit) :=
  (m_slices_insertionSortCmpFunc_scrub_Fix_ F).bind (fun y5 => some ())

def m_slices_SortStableFunc___scrub_Fix_scrub_Fix_ (F : Nat) : Option (Unit) :=
  (m_slices_stableCmpFunc_scrub_Fix_ F).bind (fun y2 => some ())

def m_math_bits_Len64_2 (F : Nat) : Option (Unit) :=
  some ()

def m_math_bits_Len_2 (F : Nat) : Option (Unit) :=
  (m_math_bits_Len64_2 F).bind (fun y3 => some ())

def m_slices_insertionSortOrdered_string_ (F : Nat) : Option (Unit) :=
  some ()

def m_slices_pdqsortOrdered_string_ (F : Nat) : Option (Unit) :=
  (m_slices_insertionSortOrdered_string_ F).bind (fun y6 => some ())

def m_slices_Sort___string_string_ (F : Nat) : Option (Unit) :=
  (m_math_bits_Len_2 F).bind (fun y3 => (m_slices_pdqsortOrdered_string_ F).bind (fun y5 => some ()))

def m_scrub_Compare (F : Nat) : Option (Unit) :=
  (m_slices_IndexFunc___scrub_Copy_scrub_Copy_ F).bind (fun y8 => (m__scrub_Copy__good F).bind (fun y16 => (m__scrub_Copy__good_2 F).bind (fun y22 => (m_slices_Sort___int_int_ F).bind (fun y29 => (m_slices_SortStableFunc___scrub_Fix_scrub_Fix_ F).bind (fun y35 => (m_slices_Sort___string_string_ F).bind (fun y38 => some ()))))))

def m_tholeref01_Ints (F : Nat) : Option (Unit) :=
  some ()

def m_tholelaw21_lives (F : Nat) : Option (Unit) :=
  (m_tholelaw21_item F).bind (fun y3 => (m_tholelaw21_item F).bind (fun y6 => (m_tholelaw21_item_2 F).bind (fun y8 => (m_scrub_Compare F).bind (fun y10 => (m_tholeref01_Ints F).bind (fun y17 => some ())))))

def m_slices_Clone___int_int_ (F : Nat) (a0 : List Int) : Option (List Int) :=
  grd (App (([] : List Int).length + a0.length) 8) (some (([] : List Int) ++ a0))

def m_pglog_Copy (F : Nat) (a0_Les : Int) (a0_Tail : S_api_Version) (a0_Log : List S_api_Entry) (a0_Lasts : List S_api_Last) (a0_Items : List S_api_Item) : Option (Int × S_api_Version × List S_api_Entry × List S_api_Last × List S_api_Item) :=
  grd (App a0_Log.length 64) (grd (App a0_Lasts.length 40) (grd (App a0_Items.length 40) (some (a0_Les, a0_Tail, a0_Log, a0_Lasts, a0_Items))))

def m_slices_Clone___api_Item_api_Item_ (F : Nat) (a0 : List S_api_Item) : Option (List S_api_Item) :=
  grd (App (([] : List S_api_Item).length + a0.length) 40) (some (([] : List S_api_Item) ++ a0))

def m_slices_Clone___string_string_ (F : Nat) (a0 : List ByteArray) : Option (List ByteArray) :=
  grd (App (([] : List ByteArray).length + a0.length) 16) (some (([] : List ByteArray) ++ a0))

def m___scrub_Machine__is (F : Nat) (a0_3 : Int) (a0_6 : Int) (a0_7 : Int) (a0_8 : Int) (a0_9 : Int) (a0_47 : List Int) (a0_48 : Int) (a0_49 : Int) (a0_50 : Int) (a0_51 : List S_api_Entry) (a0_52 : List S_api_Last) (a0_53 : List S_api_Item) (a0_54 : List (Int × S_scrub_Copy)) : Option (Unit) :=
  some ()

def m___scrub_Machine__left (F : Nat) (a0_3 : Int) (a0_6 : Int) (a0_7 : Int) (a0_8 : Int) (a0_9 : Int) (a0_47 : List Int) (a0_48 : Int) (a0_49 : Int) (a0_50 : Int) (a0_51 : List S_api_Entry) (a0_52 : List S_api_Last) (a0_53 : List S_api_Item) (a0_54 : List (Int × S_scrub_Copy)) : Option (List Int) :=
  grd (Len a0_47.length) (loopL (fun (nx85 : List Int → Option (List Int)) (v13_1 : Nat) (x63 : Int) (l20000_1 : List Int) => (bif !(chas a0_54 x63) then grd (App (l20000_1.length + [x63].length) 8) (nx85 (l20000_1 ++ [x63])) else nx85 l20000_1)) (fun (v13_1 : Nat) (l20000_1 : List Int) => some l20000_1) a0_47 0 ([] : List Int))

def m___scrub_Machine__Done (F : Nat) (a0_3 : Int) (a0_6 : Int) (a0_7 : Int) (a0_8 : Int) (a0_9 : Int) (a0_47 : List Int) (a0_48 : Int) (a0_49 : Int) (a0_50 : Int) (a0_51 : List S_api_Entry) (a0_52 : List S_api_Last) (a0_53 : List S_api_Item) (a0_54 : List (Int × S_scrub_Copy)) : Option (Bool) :=
  (m___scrub_Machine__is F a0_3 a0_6 a0_7 a0_8 a0_9 a0_47 a0_48 a0_49 a0_50 a0_51 a0_52 a0_53 a0_54).bind (fun y3 => (m___scrub_Machine__left F a0_3 a0_6 a0_7 a0_8 a0_9 a0_47 a0_48 a0_49 a0_50 a0_51 a0_52 a0_53 a0_54).bind (fun y5 => some (((y5.length : Nat) : Int) == 0)))

def m_slices_Index___api_Item_api_Item__3 (F : Nat) (a0 : List S_api_Item) (a1 : S_api_Item) : Option (Int) :=
  grd (Len a0.length) (loopL (fun (nx32 : Unit → Option (Int)) (v8_1 : Nat) (x22 : S_api_Item) (_ : Unit) => (bif S_api_Item.beq a1 x22 then some ((v8_1 : Nat) : Int) else nx32 ())) (fun (v8_1 : Nat) (_ : Unit) => some (-1)) a0 0 ())

def m_slices_Contains___api_Item_api_Item__3 (F : Nat) (a0 : List S_api_Item) (a1 : S_api_Item) : Option (Bool) :=
  (m_slices_Index___api_Item_api_Item__3 F a0 a1).bind (fun y3 => some (decide (y3 ≥ 0)))

def m_slices_Index___string_string__2 (F : Nat) (a0 : List ByteArray) (a1 : ByteArray) : Option (Int) :=
  grd (Len a0.length) (loopL (fun (nx32 : Unit → Option (Int)) (v8_1 : Nat) (x22 : ByteArray) (_ : Unit) => (bif a1.toList == x22.toList then some ((v8_1 : Nat) : Int) else nx32 ())) (fun (v8_1 : Nat) (_ : Unit) => some (-1)) a0 0 ())

def m_slices_Contains___string_string__2 (F : Nat) (a0 : List ByteArray) (a1 : ByteArray) : Option (Bool) :=
  (m_slices_Index___string_string__2 F a0 a1).bind (fun y3 => some (decide (y3 ≥ 0)))

def m__scrub_Copy__good_3 (F : Nat) (a0_Osd : Int) (a0_Items : List S_api_Item) (a0_Bad : List ByteArray) (a1 : S_api_Item) : Option (Bool) :=
  (m_slices_Contains___api_Item_api_Item__3 F a0_Items a1).bind (fun y3 => (bif y3 then (m_slices_Contains___string_string__2 F a0_Bad a1.Name).bind (fun y6 => some (!y6)) else some false))

def m_scrub_Compare_1_2 (F : Nat) (a0_Osd : Int) (a0_Items : List S_api_Item) (a0_Bad : List ByteArray) (a1 : S_api_Item) : Option (Bool) :=
  (m__scrub_Copy__good_3 F a0_Osd a0_Items a0_Bad a1).bind (fun y3 => some y3)

def m_slices_IndexFunc___scrub_Copy_scrub_Copy__2 (F : Nat) (a0 : List S_scrub_Copy) (a1c0 : S_api_Item) : Option (Int) :=
  grd (Len a0.length) (loopL (fun (nx44 : Unit → Option (Int)) (v8_1 : Nat) (x30 : S_scrub_Copy) (_ : Unit) => (m_scrub_Compare_1_2 F x30.Osd x30.Items x30.Bad a1c0).bind (fun y37 => (bif y37 then some ((v8_1 : Nat) : Int) else nx44 ()))) (fun (v8_1 : Nat) (_ : Unit) => some (-1)) a0 0 ())

def m_scrub_Compare_2 (F : Nat) (a0_Les : Int) (a0_Tail : S_api_Version) (a0_Log : List S_api_Entry) (a0_Lasts : List S_api_Last) (a0_Items : List S_api_Item) (a1 : List S_scrub_Copy) : Option (Nat × List ByteArray) :=
  grd (Len a0_Items.length) (loopL (fun (nx323 : List S_scrub_Fix × List ByteArray → Option (Nat × List ByteArray)) (v17_1 : Nat) (x215 : S_api_Item) (s337 : List S_scrub_Fix × List ByteArray) => match s337 with | (l20000_1, l20001_1) => (m_slices_IndexFunc___scrub_Copy_scrub_Copy__2 F a1 x215).bind (fun y220 => (bif decide (y220 < 0) then grd (App (l20001_1.length + [x215.Name].length) 16) (nx323 (l20000_1, (l20001_1 ++ [x215.Name]))) else grd (Len a1.length) (loopL (fun (nx296 : List Int → Option (Nat × List ByteArray)) (v33_20 : Nat) (x273 : S_scrub_Copy) (l50000_20 : List Int) => (m__scrub_Copy__good_3 F x273.Osd x273.Items x273.Bad x215).bind (fun y280 => (bif !y280 then grd (App (l50000_20.length + [x273.Osd].length) 8) (nx296 (l50000_20 ++ [x273.Osd])) else nx296 l50000_20))) (fun (v33_20 : Nat) (l50000_20 : List Int) => (bif decide (((l50000_20.length : Nat) : Int) > 0) then grd (l50000_20.length < 4611686018427387904) (grd (Ix y220 a1.length) (grd (App (l20000_1.length + [(S_scrub_Fix.mk x215.Name x215.Version ((a1.getD (Int.toNat y220) dS_scrub_Copy).Osd) (nsort l50000_20))].length) 64) (nx323 ((l20000_1 ++ [(S_scrub_Fix.mk x215.Name x215.Version ((a1.getD (Int.toNat y220) dS_scrub_Copy).Osd) (nsort l50000_20))]), l20001_1)))) else nx323 (l20000_1, l20001_1))) a1 0 ([] : List Int))))) (fun (v17_1 : Nat) (s338 : List S_scrub_Fix × List ByteArray) => match s338 with | (l20000_1, l20001_1) => grd (l20000_1.length ≤ 1048576) (grd (l20001_1.length < 4611686018427387904) (some (l20000_1.length, (ssort l20001_1))))) a0_Items 0 (([] : List S_scrub_Fix), ([] : List ByteArray)))

def m___scrub_Machine__end (F : Nat) (a0_3 : Int) (a0_6 : Int) (a0_7 : Int) (a0_8 : Int) (a0_9 : Int) (a0_47 : List Int) (a0_48 : Int) (a0_49 : Int) (a0_50 : Int) (a0_51 : List S_api_Entry) (a0_52 : List S_api_Last) (a0_53 : List S_api_Item) (a0_54 : List (Int × S_scrub_Copy)) : Option (Unit) :=
  (m___scrub_Machine__Done F a0_3 a0_6 a0_7 a0_8 a0_9 a0_47 a0_48 a0_49 a0_50 a0_51 a0_52 a0_53 a0_54).bind (fun y2 => (bif !y2 then some () else grd (Len a0_47.length) (loopL (fun (nx50 : List S_scrub_Copy → Option (Unit)) (v13_1 : Nat) (x35 : Int) (l20000_1 : List S_scrub_Copy) => grd (App (l20000_1.length + 1) 56) ((some (l20000_1 ++ [(S_scrub_Copy.mk ((cget dS_scrub_Copy a0_54 x35).Osd) ((cget dS_scrub_Copy a0_54 x35).Items) ((cget dS_scrub_Copy a0_54 x35).Bad))])).bind (fun y45 => nx50 y45))) (fun (v13_1 : Nat) (l20000_1 : List S_scrub_Copy) => (m_scrub_Compare_2 F a0_48 (S_api_Version.mk a0_49 a0_50) a0_51 a0_52 a0_53 l20000_1).bind (fun y58 => some ())) a0_47 0 ([] : List S_scrub_Copy))))

def m___scrub_Machine__Tick (F : Nat) (a0_3 : Int) (a0_6 : Int) (a0_7 : Int) (a0_8 : Int) (a0_9 : Int) (a0_47 : List Int) (a0_48 : Int) (a0_49 : Int) (a0_50 : Int) (a0_51 : List S_api_Entry) (a0_52 : List S_api_Last) (a0_53 : List S_api_Item) (a0_54 : List (Int × S_scrub_Copy)) : Option (List S_api_Msg_n) :=
  (m___scrub_Machine__is F a0_3 a0_6 a0_7 a0_8 a0_9 a0_47 a0_48 a0_49 a0_50 a0_51 a0_52 a0_53 a0_54).bind (fun y3 => (m___scrub_Machine__left F a0_3 a0_6 a0_7 a0_8 a0_9 a0_47 a0_48 a0_49 a0_50 a0_51 a0_52 a0_53 a0_54).bind (fun y7 => grd (Len y7.length) (loopL (fun (nx54 : List S_api_Msg_n → Option (List S_api_Msg_n)) (v13_1 : Nat) (x43 : Int) (l20000_1 : List S_api_Msg_n) => grd (App (l20000_1.length + [(S_api_Msg_n.mk 40 2 a0_3 2 x43 a0_6 a0_7 a0_8 a0_9 0 0 0 0 0 0 0 0 0 0 0 0 0 0 false 0 (ByteArray.mk #[]) 0 0 (ByteArray.mk #[]) 0 0 0 (ByteArray.mk #[]) 0 0 0)].length) 552) (nx54 (l20000_1 ++ [(S_api_Msg_n.mk 40 2 a0_3 2 x43 a0_6 a0_7 a0_8 a0_9 0 0 0 0 0 0 0 0 0 0 0 0 0 0 false 0 (ByteArray.mk #[]) 0 0 (ByteArray.mk #[]) 0 0 0 (ByteArray.mk #[]) 0 0 0)]))) (fun (v13_1 : Nat) (l20000_1 : List S_api_Msg_n) => some l20000_1) y7 0 ([] : List S_api_Msg_n))))

def m_scrub_New (F : Nat) (a0_0 : Int) (a0_1 : Int) (a1 : Int) (a2 : Int) (a3 : Int) (a4 : List Int) (a5_0 : Int) (a5_1 : Int) (a5_2 : Int) (a5_3 : List S_api_Entry) (a5_4 : List S_api_Last) (a5_5 : List S_api_Item) (a6_0 : Int) (a6_1 : List S_api_Item) (a6_2 : List ByteArray) : Option (List Int × Int × Int × Int × List S_api_Entry × List S_api_Last × List S_api_Item × List (Int × S_scrub_Copy) × List S_api_Msg_n) :=
  (m_slices_Clone___int_int_ F a4).bind (fun y3 => (m_pglog_Copy F a5_0 (S_api_Version.mk a5_1 a5_2) a5_3 a5_4 a5_5).bind (fun y7 => (m_slices_Clone___api_Item_api_Item_ F a6_1).bind (fun y17 => (m_slices_Clone___string_string_ F a6_2).bind (fun y21 => (m___scrub_Machine__end F a2 a3 a1 a0_0 a0_1 y3 y7.1 y7.2.1.Epoch y7.2.1.N y7.2.2.1 y7.2.2.2.1 y7.2.2.2.2 (cput ([] : List (Int × S_scrub_Copy)) a2 (S_scrub_Copy.mk a2 y17 y21))).bind (fun y27 => (m___scrub_Machine__Tick F a2 a3 a1 a0_0 a0_1 y3 y7.1 y7.2.1.Epoch y7.2.1.N y7.2.2.1 y7.2.2.2.1 y7.2.2.2.2 (cput ([] : List (Int × S_scrub_Copy)) a2 (S_scrub_Copy.mk a2 y17 y21))).bind (fun y33 => some (y3, y7.1, y7.2.1.Epoch, y7.2.1.N, y7.2.2.1, y7.2.2.2.1, y7.2.2.2.2, (cput ([] : List (Int × S_scrub_Copy)) a2 (S_scrub_Copy.mk a2 y17 y21)), y33)))))))

def m___scrub_Machine__Fixes (F : Nat) (a0_3 : Int) (a0_6 : Int) (a0_7 : Int) (a0_8 : Int) (a0_9 : Int) (a0_47 : List Int) (a0_48 : Int) (a0_49 : Int) (a0_50 : Int) (a0_51 : List S_api_Entry) (a0_52 : List S_api_Last) (a0_53 : List S_api_Item) (a0_54 : List (Int × S_scrub_Copy)) : Option (Unit) :=
  (m___scrub_Machine__Done F a0_3 a0_6 a0_7 a0_8 a0_9 a0_47 a0_48 a0_49 a0_50 a0_51 a0_52 a0_53 a0_54).bind (fun y3 => (bif !y3 then some () else none))

def m___scrub_Machine__Lost (F : Nat) (a0_3 : Int) (a0_6 : Int) (a0_7 : Int) (a0_8 : Int) (a0_9 : Int) (a0_47 : List Int) (a0_48 : Int) (a0_49 : Int) (a0_50 : Int) (a0_51 : List S_api_Entry) (a0_52 : List S_api_Last) (a0_53 : List S_api_Item) (a0_54 : List (Int × S_scrub_Copy)) : Option (Unit) :=
  (m___scrub_Machine__Done F a0_3 a0_6 a0_7 a0_8 a0_9 a0_47 a0_48 a0_49 a0_50 a0_51 a0_52 a0_53 a0_54).bind (fun y3 => (bif !y3 then some () else none))

def m_slices_Index___int_int_ (F : Nat) (a0 : List Int) (a1 : Int) : Option (Int) :=
  grd (Len a0.length) (loopL (fun (nx32 : Unit → Option (Int)) (v8_1 : Nat) (x22 : Int) (_ : Unit) => (bif a1 == x22 then some ((v8_1 : Nat) : Int) else nx32 ())) (fun (v8_1 : Nat) (_ : Unit) => some (-1)) a0 0 ())

def m_slices_Contains___int_int_ (F : Nat) (a0 : List Int) (a1 : Int) : Option (Bool) :=
  (m_slices_Index___int_int_ F a0 a1).bind (fun y3 => some (decide (y3 ≥ 0)))

def m___scrub_Machine__Step (F : Nat) (a0_3 : Int) (a0_6 : Int) (a0_7 : Int) (a0_8 : Int) (a0_9 : Int) (a0_47 : List Int) (a0_48 : Int) (a0_49 : Int) (a0_50 : Int) (a0_51 : List S_api_Entry) (a0_52 : List S_api_Last) (a0_53 : List S_api_Item) (a0_54 : List (Int × S_scrub_Copy)) (a1_1 : Int) (a1_2 : Int) (a1_3 : Int) (a1_4 : Int) (a1_6 : Int) (a1_7 : Int) (a1_8 : Int) (a1_43 : List S_api_Item) (a1_44 : List ByteArray) : Option (List (Int × S_scrub_Copy)) :=
  jn (fun (v49_1 : Bool) => (bif v49_1 then some a0_54 else (m___scrub_Machine__left F a0_3 a0_6 a0_7 a0_8 a0_9 a0_47 a0_48 a0_49 a0_50 a0_51 a0_52 a0_53 a0_54).bind (fun y15 => (m_slices_Contains___int_int_ F y15 a1_2).bind (fun y20 => (bif y20 then (m_slices_Clone___api_Item_api_Item_ F a1_43).bind (fun y24 => (m_slices_Clone___string_string_ F a1_44).bind (fun y28 => (m___scrub_Machine__end F a0_3 a0_6 a0_7 a0_8 a0_9 a0_47 a0_48 a0_49 a0_50 a0_51 a0_52 a0_53 (cput a0_54 a1_2 (S_scrub_Copy.mk a1_2 y24 y28))).bind (fun y34 => some (cput a0_54 a1_2 (S_scrub_Copy.mk a1_2 y24 y28))))) else some a0_54))))) (fun (J8 : Bool → Option (List (Int × S_scrub_Copy))) => (m___scrub_Machine__is F a0_3 a0_6 a0_7 a0_8 a0_9 a0_47 a0_48 a0_49 a0_50 a0_51 a0_52 a0_53 a0_54).bind (fun y3 => (bif !(S_api_Node.beq (S_api_Node.mk a1_3 a1_4) (S_api_Node.mk 2 a0_3)) then J8 true else (bif a1_1 != 2 then J8 true else (bif !(S_api_Pg.beq (S_api_Pg.mk a1_7 a1_8) (S_api_Pg.mk a0_8 a0_9)) then J8 true else J8 (a1_6 != a0_7))))))

def m_tholelaw21_ScrubEnds (F : Nat) (a0_Pg : S_api_Pg) (a0_Epoch : Int) (a0_Self : Int) (a0_Boot : Int) (a0_Acting : List Int) (a0_State_Les : Int) (a0_State_Tail : S_api_Version) (a0_State_Log : List S_api_Entry) (a0_State_Lasts : List S_api_Last) (a0_State_Items : List S_api_Item) (a0_Own_Osd : Int) (a0_Own_Items : List S_api_Item) (a0_Own_Bad : List ByteArray) (a1 : List S_scrub_Copy) : Option (Bool) :=
  grd (Len a0_Acting.length) (loopL (fun (nx105 : Unit → Option (Bool)) (v20_1 : Nat) (x58 : Int) (_ : Unit) => grd (((v20_1 : Nat) : Int) ≤ 9223372036854775807) (loopC (fun (nx95 : Unit → Option (Bool)) (v7_4 : Nat) (_ : Unit) => grd (v7_4 < a0_Acting.length) ((bif (a0_Acting.getD v7_4 0) == x58 then (m_tholelaw21_lives F).bind (fun y90 => some true) else nx95 ()))) (fun (v7_4 : Nat) (_ : Unit) => nx105 ()) (Int.toNat (((v20_1 : Nat) : Int) - ((0 : Nat) : Int))) 0 ())) (fun (v20_1 : Nat) (_ : Unit) => (m_scrub_New F a0_Pg.Pool a0_Pg.Seed a0_Epoch a0_Self a0_Boot a0_Acting a0_State_Les a0_State_Tail.Epoch a0_State_Tail.N a0_State_Log a0_State_Lasts a0_State_Items a0_Own_Osd a0_Own_Items a0_Own_Bad).bind (fun y113 => loopL (fun (nx191 : Nat → Option (Bool)) (v62_5 : Nat) (x172 : Int) (v10_5 : Nat) => (bif x172 != a0_Self then grd (Len (v10_5 + 1)) (nx191 (v10_5 + 1)) else nx191 v10_5)) (fun (v62_5 : Nat) (v10_5 : Nat) => jn (fun (v83_12 : Bool) => (bif v83_12 then some false else grd (Len y113.2.2.2.2.2.2.2.2.length) (loopL (fun (nx360 : List (Int × S_scrub_Copy) → Option (Bool)) (v86_13 : Nat) (x309 : S_api_Msg_n) (l15_13 : List (Int × S_scrub_Copy)) => jn (fun (v113_18 : Bool) => (bif v113_18 then some false else jn (fun (s374 : Int × List S_api_Item × List ByteArray) => match s374 with | (c19_0_19, l20_19, l21_19) => (m___scrub_Machine__Step F a0_Self a0_Boot a0_Epoch a0_Pg.Pool a0_Pg.Seed y113.1 y113.2.1 y113.2.2.1 y113.2.2.2.1 y113.2.2.2.2.1 y113.2.2.2.2.2.1 y113.2.2.2.2.2.2.1 l15_13 x309.c3 x309.c4 x309.c1 x309.c2 x309.c6 x309.c7 x309.c8 l20_19 l21_19).bind (fun y344 => (m___scrub_Machine__Step F a0_Self a0_Boot a0_Epoch a0_Pg.Pool a0_Pg.Seed y113.1 y113.2.1 y113.2.2.1 y113.2.2.2.1 y113.2.2.2.2.1 y113.2.2.2.2.2.1 y113.2.2.2.2.2.2.1 y344 x309.c3 x309.c4 x309.c1 x309.c2 x309.c6 x309.c7 x309.c8 l20_19 l21_19).bind (fun y351 => nx360 y351))) (fun (J339 : Int × List S_api_Item × List ByteArray → Option (Bool)) => (bif decide (((v86_13 : Nat) : Int) < ((a1.length : Nat) : Int)) then grd (v86_13 < a1.length) (J339 (((a1.getD v86_13 dS_scrub_Copy).Osd), (a1.getD v86_13 dS_scrub_Copy).Items, (a1.getD v86_13 dS_scrub_Copy).Bad)) else J339 (0, ([] : List S_api_Item), ([] : List ByteArray)))))) (fun (J327 : Bool → Option (Bool)) => (m___scrub_Machine__Done F a0_Self a0_Boot a0_Epoch a0_Pg.Pool a0_Pg.Seed y113.1 y113.2.1 y113.2.2.1 y113.2.2.2.1 y113.2.2.2.2.1 y113.2.2.2.2.2.1 y113.2.2.2.2.2.2.1 l15_13).bind (fun y314 => (bif y314 then J327 true else (m___scrub_Machine__Fixes F a0_Self a0_Boot a0_Epoch a0_Pg.Pool a0_Pg.Seed y113.1 y113.2.1 y113.2.2.1 y113.2.2.2.1 y113.2.2.2.2.1 y113.2.2.2.2.2.1 y113.2.2.2.2.2.2.1 l15_13).bind (fun y317 => (m___scrub_Machine__Lost F a0_Self a0_Boot a0_Epoch a0_Pg.Pool a0_Pg.Seed y113.1 y113.2.1 y113.2.2.1 y113.2.2.2.1 y113.2.2.2.2.1 y113.2.2.2.2.2.1 y113.2.2.2.2.2.2.1 l15_13).bind (fun y319 => (m___scrub_Machine__Tick F a0_Self a0_Boot a0_Epoch a0_Pg.Pool a0_Pg.Seed y113.1 y113.2.1 y113.2.2.1 y113.2.2.2.1 y113.2.2.2.2.1 y113.2.2.2.2.2.1 y113.2.2.2.2.2.2.1 l15_13).bind (fun y321 => grd (I64 (((v10_5 : Nat) : Int) - ((v86_13 : Nat) : Int))) (J327 (((y321.length : Nat) : Int) != (((v10_5 : Nat) : Int) - ((v86_13 : Nat) : Int))))))))))) (fun (v86_13 : Nat) (l15_13 : List (Int × S_scrub_Copy)) => (m___scrub_Machine__Done F a0_Self a0_Boot a0_Epoch a0_Pg.Pool a0_Pg.Seed y113.1 y113.2.1 y113.2.2.1 y113.2.2.2.1 y113.2.2.2.2.1 y113.2.2.2.2.2.1 y113.2.2.2.2.2.2.1 l15_13).bind (fun y368 => (bif y368 then (m___scrub_Machine__Tick F a0_Self a0_Boot a0_Epoch a0_Pg.Pool a0_Pg.Seed y113.1 y113.2.1 y113.2.2.1 y113.2.2.2.1 y113.2.2.2.2.1 y113.2.2.2.2.2.1 y113.2.2.2.2.2.2.1 l15_13).bind (fun y371 => (bif ((y371.length : Nat) : Int) == 0 then (m_tholelaw21_lives F).bind (fun y377 => some true) else some false)) else some false))) y113.2.2.2.2.2.2.2.2 0 y113.2.2.2.2.2.2.2.1))) (fun (J202 : Bool → Option (Bool)) => (bif ((y113.2.2.2.2.2.2.2.2.length : Nat) : Int) != ((v10_5 : Nat) : Int) then J202 true else (m___scrub_Machine__Done F a0_Self a0_Boot a0_Epoch a0_Pg.Pool a0_Pg.Seed y113.1 y113.2.1 y113.2.2.1 y113.2.2.2.1 y113.2.2.2.2.1 y113.2.2.2.2.2.1 y113.2.2.2.2.2.2.1 y113.2.2.2.2.2.2.2.1).bind (fun y200 => J202 (!(y200 == (((v10_5 : Nat) : Int) == 0))))))) a0_Acting 0 0)) a0_Acting 0 ())

end Go.Proofs.Ytcegkgbceogflaa
