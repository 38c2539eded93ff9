/-
  CHAPTER 24n: the models of its functions.
-/
import Derived.Test.YtfdojammchbboaaDoorProg
import Derived.Test.YtfdojammchbboaaDoorS24d
set_option linter.unusedVariables false
set_option linter.unusedSimpArgs false
set_option maxRecDepth 100000
namespace Go.Proofs.YtfdojammchbboaaDoor
open Go Go.RowKit Sx

structure S_stripe_Layout where
  Unit : Int
  Count : Int
  Size : Int
def S_stripe_Layout.row (x : S_stripe_Layout) : List Value := [.int .i64 x.Unit, .int .i64 x.Count, .int .i64 x.Size]
def dS_stripe_Layout : S_stripe_Layout := S_stripe_Layout.mk 0 0 0
def S_stripe_Layout.beq (x y : S_stripe_Layout) : Bool := (x.Unit == y.Unit) && ((x.Count == y.Count) && ((x.Size == y.Size) && true))
theorem S_stripe_Layout.beq_iff (x y : S_stripe_Layout) : S_stripe_Layout.beq x y = true ↔ x = y := by
  cases x; cases y; simp [S_stripe_Layout.beq, str_beq]

structure S_stripe_Extent where
  Object : Int
  At : Int
  N : Int
def S_stripe_Extent.row (x : S_stripe_Extent) : List Value := [.int .i64 x.Object, .int .i64 x.At, .int .i64 x.N]
def dS_stripe_Extent : S_stripe_Extent := S_stripe_Extent.mk 0 0 0
def S_stripe_Extent.beq (x y : S_stripe_Extent) : Bool := (x.Object == y.Object) && ((x.At == y.At) && ((x.N == y.N) && true))
theorem S_stripe_Extent.beq_iff (x y : S_stripe_Extent) : S_stripe_Extent.beq x y = true ↔ x = y := by
  cases x; cases y; simp [S_stripe_Extent.beq, str_beq]

@[reducible] def r3 (o : Option Addr) (l : List Int) : Ent := .rd o 1 (List.map rI l)
@[reducible] def o3 (o : Option Addr) (c : Nat) (l : List Int) : Ent := .osl o c 3 1 (List.map rI l)
@[reducible] def r44 (o : Option Addr) (l : List S_stripe_Extent) : Ent := .rd o 3 (List.map S_stripe_Extent.row l)
@[reducible] def o44 (o : Option Addr) (c : Nat) (l : List S_stripe_Extent) : Ent := .osl o c 44 3 (List.map S_stripe_Extent.row l)

def m_internal_bytealg_LastIndexByteString (F : Nat) (a0 : ByteArray) (a1 : Int) : Option (Int) :=
  grd (I64 (((a0.size : Nat) : Int) - 1)) (loopW (fun (nx29 : Int → Option (Int)) (v5_1 : Int) => (bif decide (v5_1 ≥ 0) then grd (Ix v5_1 a0.size) ((bif (((a0.data.getD (Int.toNat v5_1) 0).toNat : Nat) : Int) == a1 then some v5_1 else grd (I64 (v5_1 - 1)) (nx29 (v5_1 - 1)))) else some (-1))) F (((a0.size : Nat) : Int) - 1))

def m_strings_LastIndexByte (F : Nat) (a0 : ByteArray) (a1 : Int) : Option (Int) :=
  (m_internal_bytealg_LastIndexByteString F a0 a1).bind (fun y3 => some y3)

def m_stripe_Parse (F : Nat) (a0 : ByteArray) : Option (ByteArray × Int × Bool) :=
  (m_strings_LastIndexByte F a0 46).bind (fun y3 => (bif decide (y3 < 0) then some ((ByteArray.mk #[]), 0, false) else grd (I64 (y3 + 1)) (grd (Bd (y3 + 1) a0.size) ((bif atok (a0.extract (Int.toNat (y3 + 1)) a0.size) then grd ((a0.extract (Int.toNat (y3 + 1)) a0.size).size ≤ 281474976710656) (jn (fun (v38_2 : Bool) => (bif v38_2 then some ((ByteArray.mk #[]), 0, false) else grd (Bd y3 a0.size) (some ((a0.extract 0 (Int.toNat y3)), (atoiV (a0.extract (Int.toNat (y3 + 1)) a0.size)), true)))) (fun (J19 : Bool → Option (ByteArray × Int × Bool)) => (bif decide ((atoiV (a0.extract (Int.toNat (y3 + 1)) a0.size)) < 0) then J19 true else (bif decide ((atoiV (a0.extract (Int.toNat (y3 + 1)) a0.size)) > 65535) then J19 true else grd (I64 (atoiV (a0.extract (Int.toNat (y3 + 1)) a0.size))) (J19 (!((ByteArray.mk (Lib.itoa (atoiV (a0.extract (Int.toNat (y3 + 1)) a0.size))).toArray).toList == (a0.extract (Int.toNat (y3 + 1)) a0.size).toList))))))) else grd ((a0.extract (Int.toNat (y3 + 1)) a0.size).size ≤ 281474976710656) (some ((ByteArray.mk #[]), 0, false)))))))

def m_tholeref24_Parse (F : Nat) (a0 : ByteArray) : Option (ByteArray × Int × Bool) :=
  grd (((a0.size : Nat) : Int) ≤ 9223372036854775807) (loopC (fun (nx55 : Int → Option (ByteArray × Int × Bool)) (v12_1 : Nat) (v5_1 : Int) => grd (v12_1 < a0.size) ((bif (((a0.data.getD v12_1 0).toNat : Nat) : Int) == 46 then nx55 ((v12_1 : Nat) : Int) else nx55 v5_1))) (fun (v12_1 : Nat) (v5_1 : Int) => (bif decide (v5_1 < 0) then some ((ByteArray.mk #[]), 0, false) else grd (I64 (v5_1 + 1)) (grd (Bd (v5_1 + 1) a0.size) (jn (fun (v43_8 : Bool) => (bif v43_8 then some ((ByteArray.mk #[]), 0, false) else grd ((((a0.extract (Int.toNat (v5_1 + 1)) a0.size).size : Nat) : Int) ≤ 9223372036854775807) (loopC (fun (nx131 : Int → Option (ByteArray × Int × Bool)) (v46_9 : Nat) (v8_9 : Int) => jn (fun (v58_12 : Bool) => (bif v58_12 then some ((ByteArray.mk #[]), 0, false) else grd (I64 (v8_9 * 10)) (grd (v46_9 < (a0.extract (Int.toNat (v5_1 + 1)) a0.size).size) (grd (I64 ((v8_9 * 10) + (IntKind.i64.wrap (IntKind.u8.wrap (((((a0.extract (Int.toNat (v5_1 + 1)) a0.size).data.getD v46_9 0).toNat : Nat) : Int) - 48))))) (nx131 ((v8_9 * 10) + (IntKind.i64.wrap (IntKind.u8.wrap (((((a0.extract (Int.toNat (v5_1 + 1)) a0.size).data.getD v46_9 0).toNat : Nat) : Int) - 48))))))))) (fun (J119 : Bool → Option (ByteArray × Int × Bool)) => grd (v46_9 < (a0.extract (Int.toNat (v5_1 + 1)) a0.size).size) ((bif decide (((((a0.extract (Int.toNat (v5_1 + 1)) a0.size).data.getD v46_9 0).toNat : Nat) : Int) < 48) then J119 true else J119 (decide (((((a0.extract (Int.toNat (v5_1 + 1)) a0.size).data.getD v46_9 0).toNat : Nat) : Int) > 57)))))) (fun (v46_9 : Nat) (v8_9 : Int) => (bif decide (v8_9 > 65535) then some ((ByteArray.mk #[]), 0, false) else grd (Bd v5_1 a0.size) (some ((a0.extract 0 (Int.toNat v5_1)), v8_9, true)))) (Int.toNat ((((a0.extract (Int.toNat (v5_1 + 1)) a0.size).size : Nat) : Int) - ((0 : Nat) : Int))) 0 0))) (fun (J72 : Bool → Option (ByteArray × Int × Bool)) => (bif (a0.extract (Int.toNat (v5_1 + 1)) a0.size).toList == (ByteArray.mk #[]).toList then J72 true else (bif decide ((((a0.extract (Int.toNat (v5_1 + 1)) a0.size).size : Nat) : Int) > 5) then J72 true else (bif decide ((((a0.extract (Int.toNat (v5_1 + 1)) a0.size).size : Nat) : Int) > 1) then grd (0 < (a0.extract (Int.toNat (v5_1 + 1)) a0.size).size) (J72 (((((a0.extract (Int.toNat (v5_1 + 1)) a0.size).data.getD 0 0).toNat : Nat) : Int) == 48)) else J72 false)))))))) (Int.toNat (((a0.size : Nat) : Int) - ((0 : Nat) : Int))) 0 (-1))

def m_stripe_Name (F : Nat) (a0 : ByteArray) (a1 : Int) : Option (ByteArray) :=
  (bif decide (a1 < 0) then some (ByteArray.mk #[]) else grd (Len (a0.size + (ByteArray.mk #[46]).size)) (grd (I64 a1) (grd (Len ((a0 ++ (ByteArray.mk #[46])).size + (ByteArray.mk (Lib.itoa a1).toArray).size)) (some ((a0 ++ (ByteArray.mk #[46])) ++ (ByteArray.mk (Lib.itoa a1).toArray))))))

def m_tholeref08_digits (F : Nat) (a0 : Int) : Option (ByteArray) :=
  loopW (fun (nx22 : Int × ByteArray → Option (ByteArray)) (s32 : Int × ByteArray) => match s32 with | (v0_1, v3_1) => (bif decide (v0_1 > 9) then grd (0 ≤ (IntKind.u8.wrap (IntKind.u64.wrap (48 + (Int.tmod v0_1 10)))) ∧ (IntKind.u8.wrap (IntKind.u64.wrap (48 + (Int.tmod v0_1 10)))) < 256) (grd (Len ((ByteArray.mk [(UInt8.ofNat (Int.toNat (IntKind.u8.wrap (IntKind.u64.wrap (48 + (Int.tmod v0_1 10))))))].toArray).size + v3_1.size)) (nx22 ((IntKind.u64.wrap (Int.tdiv v0_1 10)), ((ByteArray.mk [(UInt8.ofNat (Int.toNat (IntKind.u8.wrap (IntKind.u64.wrap (48 + (Int.tmod v0_1 10))))))].toArray) ++ v3_1)))) else grd (0 ≤ (IntKind.u8.wrap (IntKind.u64.wrap (48 + v0_1))) ∧ (IntKind.u8.wrap (IntKind.u64.wrap (48 + v0_1))) < 256) (grd (Len ((ByteArray.mk [(UInt8.ofNat (Int.toNat (IntKind.u8.wrap (IntKind.u64.wrap (48 + v0_1)))))].toArray).size + v3_1.size)) (some ((ByteArray.mk [(UInt8.ofNat (Int.toNat (IntKind.u8.wrap (IntKind.u64.wrap (48 + v0_1)))))].toArray) ++ v3_1))))) F (a0, (ByteArray.mk #[]))

def m_tholeref08_text (F : Nat) (a0 : Int) : Option (ByteArray) :=
  (bif decide (a0 < 0) then grd (I64 (a0 + 1)) (grd (I64 (0 - (a0 + 1))) ((m_tholeref08_digits F (IntKind.u64.wrap ((IntKind.u64.wrap (0 - (a0 + 1))) + 1))).bind (fun y7 => grd (Len ((ByteArray.mk #[45]).size + y7.size)) (some ((ByteArray.mk #[45]) ++ y7))))) else (m_tholeref08_digits F (IntKind.u64.wrap a0)).bind (fun y11 => some y11))

def m_tholeref08_Text (F : Nat) (a0 : Int) : Option (ByteArray) :=
  (m_tholeref08_text F a0).bind (fun y3 => some y3)

def m_tholeref24_Name (F : Nat) (a0 : ByteArray) (a1 : Int) : Option (ByteArray) :=
  (bif decide (a1 < 0) then some (ByteArray.mk #[]) else grd (Len (a0.size + (ByteArray.mk #[46]).size)) ((m_tholeref08_Text F a1).bind (fun y7 => grd (Len ((a0 ++ (ByteArray.mk #[46])).size + y7.size)) (some ((a0 ++ (ByteArray.mk #[46])) ++ y7)))))

def m_stripe_Good (F : Nat) (a0 : S_stripe_Layout) : Option (Bool) :=
  (bif decide (a0.Unit ≥ 1) then (bif decide (a0.Unit ≤ 4096) then (bif decide (a0.Count ≥ 1) then (bif decide (a0.Count ≤ 16) then (bif decide (a0.Size ≥ a0.Unit) then (bif decide (a0.Size ≤ 4096) then grd (a0.Unit ≠ 0) (some ((Int.tmod a0.Size a0.Unit) == 0)) else some false) else some false) else some false) else some false) else some false) else some false)

def m__stripe_Layout__set (F : Nat) (a0 : S_stripe_Layout) : Option (Int) :=
  grd (a0.Unit ≠ 0) (grd (I64 (Int.tdiv a0.Size a0.Unit)) (grd (I64 (a0.Count * (Int.tdiv a0.Size a0.Unit))) (some (a0.Count * (Int.tdiv a0.Size a0.Unit)))))

def m_stripe_Place (F : Nat) (a0 : S_stripe_Layout) (a1 : Int) : Option (Int × Int) :=
  jn (fun (v18_1 : Bool) => (bif v18_1 then some (0, 0) else grd (a0.Unit ≠ 0) (grd (I64 (Int.tdiv a1 a0.Unit)) ((m__stripe_Layout__set F a0).bind (fun y16 => grd (y16 ≠ 0) ((m__stripe_Layout__set F a0).bind (fun y20 => grd (y20 ≠ 0) (grd (I64 (Int.tdiv (Int.tdiv a1 a0.Unit) y20)) (grd (I64 ((Int.tdiv (Int.tdiv a1 a0.Unit) y20) * a0.Count)) (grd (a0.Count ≠ 0) (grd (I64 (((Int.tdiv (Int.tdiv a1 a0.Unit) y20) * a0.Count) + (Int.tmod (Int.tmod (Int.tdiv a1 a0.Unit) y16) a0.Count))) (grd (I64 (Int.tdiv (Int.tmod (Int.tdiv a1 a0.Unit) y16) a0.Count)) (grd (I64 ((Int.tdiv (Int.tmod (Int.tdiv a1 a0.Unit) y16) a0.Count) * a0.Unit)) (grd (I64 (((Int.tdiv (Int.tmod (Int.tdiv a1 a0.Unit) y16) a0.Count) * a0.Unit) + (Int.tmod a1 a0.Unit))) (some ((((Int.tdiv (Int.tdiv a1 a0.Unit) y20) * a0.Count) + (Int.tmod (Int.tmod (Int.tdiv a1 a0.Unit) y16) a0.Count)), (((Int.tdiv (Int.tmod (Int.tdiv a1 a0.Unit) y16) a0.Count) * a0.Unit) + (Int.tmod a1 a0.Unit)))))))))))))))))) (fun (J7 : Bool → Option (Int × Int)) => (m_stripe_Good F a0).bind (fun y3 => (bif !y3 then J7 true else (bif decide (a1 < 0) then J7 true else J7 (decide (a1 ≥ 65536))))))

def m_stripe_Extents (F : Nat) (a0 : S_stripe_Layout) (a1 : Int) (a2 : Int) : Option (List S_stripe_Extent) :=
  jn (fun (v33_1 : Bool) => (bif v33_1 then some ([] : List S_stripe_Extent) else grd (I64 (a1 + a2)) (loopW (fun (nx88 : Int × List S_stripe_Extent → Option (List S_stripe_Extent)) (s96 : Int × List S_stripe_Extent) => match s96 with | (v1_2, l20000_2) => (bif decide (v1_2 < (a1 + a2)) then (m_stripe_Place F a0 v1_2).bind (fun y64 => grd (a0.Unit ≠ 0) (grd (I64 (a0.Unit - (Int.tmod v1_2 a0.Unit))) (grd (I64 ((a1 + a2) - v1_2)) (grd (I64 (((l20000_2.length : Nat) : Int) - 1)) (jn (fun (v85_5 : Bool) => jn (fun (l20000_6 : List S_stripe_Extent) => grd (I64 (v1_2 + (if ((a1 + a2) - v1_2) < (a0.Unit - (Int.tmod v1_2 a0.Unit)) then ((a1 + a2) - v1_2) else (a0.Unit - (Int.tmod v1_2 a0.Unit))))) (nx88 ((v1_2 + (if ((a1 + a2) - v1_2) < (a0.Unit - (Int.tmod v1_2 a0.Unit)) then ((a1 + a2) - v1_2) else (a0.Unit - (Int.tmod v1_2 a0.Unit)))), l20000_6))) (fun (J83 : List S_stripe_Extent → Option (List S_stripe_Extent)) => (bif v85_5 then grd (Ix (((l20000_2.length : Nat) : Int) - 1) l20000_2.length) (grd (I64 (((l20000_2.getD (Int.toNat (((l20000_2.length : Nat) : Int) - 1)) dS_stripe_Extent).N) + (if ((a1 + a2) - v1_2) < (a0.Unit - (Int.tmod v1_2 a0.Unit)) then ((a1 + a2) - v1_2) else (a0.Unit - (Int.tmod v1_2 a0.Unit))))) (J83 (l20000_2.set (Int.toNat (((l20000_2.length : Nat) : Int) - 1)) (S_stripe_Extent.mk ((l20000_2.getD (Int.toNat (((l20000_2.length : Nat) : Int) - 1)) dS_stripe_Extent).Object) ((l20000_2.getD (Int.toNat (((l20000_2.length : Nat) : Int) - 1)) dS_stripe_Extent).At) (((l20000_2.getD (Int.toNat (((l20000_2.length : Nat) : Int) - 1)) dS_stripe_Extent).N) + (if ((a1 + a2) - v1_2) < (a0.Unit - (Int.tmod v1_2 a0.Unit)) then ((a1 + a2) - v1_2) else (a0.Unit - (Int.tmod v1_2 a0.Unit)))))))) else grd (App (l20000_2.length + [(S_stripe_Extent.mk y64.1 y64.2 (if ((a1 + a2) - v1_2) < (a0.Unit - (Int.tmod v1_2 a0.Unit)) then ((a1 + a2) - v1_2) else (a0.Unit - (Int.tmod v1_2 a0.Unit))))].length) 24) (J83 (l20000_2 ++ [(S_stripe_Extent.mk y64.1 y64.2 (if ((a1 + a2) - v1_2) < (a0.Unit - (Int.tmod v1_2 a0.Unit)) then ((a1 + a2) - v1_2) else (a0.Unit - (Int.tmod v1_2 a0.Unit))))]))))) (fun (J74 : Bool → Option (List S_stripe_Extent)) => (bif decide ((((l20000_2.length : Nat) : Int) - 1) ≥ 0) then grd (Ix (((l20000_2.length : Nat) : Int) - 1) l20000_2.length) ((bif ((l20000_2.getD (Int.toNat (((l20000_2.length : Nat) : Int) - 1)) dS_stripe_Extent).Object) == y64.1 then grd (I64 (((l20000_2.getD (Int.toNat (((l20000_2.length : Nat) : Int) - 1)) dS_stripe_Extent).At) + ((l20000_2.getD (Int.toNat (((l20000_2.length : Nat) : Int) - 1)) dS_stripe_Extent).N))) (J74 ((((l20000_2.getD (Int.toNat (((l20000_2.length : Nat) : Int) - 1)) dS_stripe_Extent).At) + ((l20000_2.getD (Int.toNat (((l20000_2.length : Nat) : Int) - 1)) dS_stripe_Extent).N)) == y64.2)) else J74 false)) else J74 false))))))) else some l20000_2)) F (a1, ([] : List S_stripe_Extent))))) (fun (J10 : Bool → Option (List S_stripe_Extent)) => (m_stripe_Good F a0).bind (fun y3 => (bif !y3 then J10 true else (bif decide (a1 < 0) then J10 true else (bif decide (a2 < 0) then J10 true else (bif decide (a1 > 65536) then J10 true else grd (I64 (65536 - a1)) (J10 (decide (a2 > (65536 - a1))))))))))

def m_stripe_Sizes (F : Nat) (a0 : S_stripe_Layout) (a1 : Int) : Option (List Int) :=
  jn (fun (v18_1 : Bool) => (bif v18_1 then some ([] : List Int) else (m_stripe_Extents F a0 0 a1).bind (fun y14 => grd (Len y14.length) (loopL (fun (nx111 : List Int → Option (List Int)) (v23_2 : Nat) (x80 : S_stripe_Extent) (l20000_2 : List Int) => loopW (fun (nx98 : List Int → Option (List Int)) (l20000_5 : List Int) => (bif decide (((l20000_5.length : Nat) : Int) ≤ x80.Object) then grd (App (l20000_5.length + [0].length) 8) (nx98 (l20000_5 ++ [0])) else grd (Ix x80.Object l20000_5.length) (grd (I64 ((l20000_5.getD (Int.toNat x80.Object) 0) + x80.N)) (nx111 (l20000_5.set (Int.toNat x80.Object) ((l20000_5.getD (Int.toNat x80.Object) 0) + x80.N)))))) F l20000_2) (fun (v23_2 : Nat) (l20000_2 : List Int) => some l20000_2) y14 0 ([] : List Int))))) (fun (J7 : Bool → Option (List Int)) => (m_stripe_Good F a0).bind (fun y3 => (bif !y3 then J7 true else (bif decide (a1 < 0) then J7 true else J7 (decide (a1 > 65536))))))

def m_tholeref01_Ints (F : Nat) (a0 : List Int) (a1 : List Int) : Option (Bool) :=
  (bif ((a0.length : Nat) : Int) != ((a1.length : Nat) : Int) then some false else grd (Len a0.length) (loopL (fun (nx38 : Unit → Option (Bool)) (v13_1 : Nat) (x27 : Int) (_ : Unit) => grd (v13_1 < a1.length) ((bif x27 != (a1.getD v13_1 0) then some false else nx38 ()))) (fun (v13_1 : Nat) (_ : Unit) => some true) a0 0 ()))

def m_stripe_Back (F : Nat) (a0 : S_stripe_Layout) (a1 : Int) (a2 : Int) : Option (Int) :=
  (m_stripe_Good F a0).bind (fun y3 => (bif !y3 then some 0 else jn (fun (v13_1 : Bool) => (bif v13_1 then some (-1) else grd (a0.Count ≠ 0) (grd (I64 (Int.tdiv a1 a0.Count)) ((m__stripe_Layout__set F a0).bind (fun y20 => grd (I64 ((Int.tdiv a1 a0.Count) * y20)) (grd (a0.Unit ≠ 0) (grd (I64 (Int.tdiv a2 a0.Unit)) (grd (I64 ((Int.tdiv a2 a0.Unit) * a0.Count)) (grd (I64 (((Int.tdiv a1 a0.Count) * y20) + ((Int.tdiv a2 a0.Unit) * a0.Count))) (grd (I64 ((((Int.tdiv a1 a0.Count) * y20) + ((Int.tdiv a2 a0.Unit) * a0.Count)) + (Int.tmod a1 a0.Count))) ((bif decide (((((Int.tdiv a1 a0.Count) * y20) + ((Int.tdiv a2 a0.Unit) * a0.Count)) + (Int.tmod a1 a0.Count)) ≥ 65536) then some (-1) else grd (I64 (((((Int.tdiv a1 a0.Count) * y20) + ((Int.tdiv a2 a0.Unit) * a0.Count)) + (Int.tmod a1 a0.Count)) * a0.Unit)) (grd (I64 ((((((Int.tdiv a1 a0.Count) * y20) + ((Int.tdiv a2 a0.Unit) * a0.Count)) + (Int.tmod a1 a0.Count)) * a0.Unit) + (Int.tmod a2 a0.Unit))) ((bif decide (((((((Int.tdiv a1 a0.Count) * y20) + ((Int.tdiv a2 a0.Unit) * a0.Count)) + (Int.tmod a1 a0.Count)) * a0.Unit) + (Int.tmod a2 a0.Unit)) < 65536) then some ((((((Int.tdiv a1 a0.Count) * y20) + ((Int.tdiv a2 a0.Unit) * a0.Count)) + (Int.tmod a1 a0.Count)) * a0.Unit) + (Int.tmod a2 a0.Unit)) else some (-1)))))))))))))))) (fun (J12 : Bool → Option (Int)) => (bif decide (a2 < 0) then J12 true else (bif decide (a2 ≥ a0.Size) then J12 true else (bif decide (a1 < 0) then J12 true else grd (I64 (65536 * a0.Count)) (J12 (decide (a1 ≥ (65536 * a0.Count))))))))))

def m_tholelaw24_lives (F : Nat) : Option (Bool) :=
  (m_stripe_Place F (S_stripe_Layout.mk 2 2 4) 8).bind (fun y4 => (m_stripe_Parse F (ByteArray.mk #[97, 46, 48, 49])).bind (fun y7 => (bif y4.1 == 2 then (bif y4.2 == 0 then (m_stripe_Sizes F (S_stripe_Layout.mk 2 2 4) 9).bind (fun y12 => (m_tholeref01_Ints F y12 [4, 4, 1]).bind (fun y17 => (bif y17 then (m_stripe_Back F (S_stripe_Layout.mk 2 2 4) 1 1).bind (fun y20 => (bif y20 == 3 then (bif !y7.2.2 then (m_stripe_Name F (ByteArray.mk #[97]) 3).bind (fun y24 => some (y24.toList == (ByteArray.mk #[97, 46, 51]).toList)) else some false) else some false)) else some false))) else some false) else some false)))

def m_tholelaw24_StripeNames (F : Nat) (a0 : ByteArray) (a1 : Int) (a2 : ByteArray) : Option (Bool) :=
  (m_stripe_Parse F a2).bind (fun y3 => (m_tholeref24_Parse F a2).bind (fun y6 => (m_stripe_Name F a0 a1).bind (fun y9 => (m_tholeref24_Name F a0 a1).bind (fun y11 => (bif y9.toList == y11.toList then (bif y3.1.toList == y6.1.toList then (bif y3.2.1 == y6.2.1 then (bif y3.2.2 == y6.2.2 then (m_tholelaw24_lives F).bind (fun y17 => some y17) else some false) else some false) else some false) else some false)))))

end Go.Proofs.YtfdojammchbboaaDoor
