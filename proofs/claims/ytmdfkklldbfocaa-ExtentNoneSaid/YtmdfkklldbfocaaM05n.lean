/-
  CHAPTER 05n: the models of its functions.
-/
import Derived.Test.YtmdfkklldbfocaaProg
import Derived.Test.YtmdfkklldbfocaaGxi
set_option linter.unusedVariables false
set_option linter.unusedSimpArgs false
set_option maxRecDepth 100000
namespace Go.Proofs.Ytmdfkklldbfocaa
open Go Go.RowKit Sx

@[reducible] def r5 (o : Option Addr) (l : List UInt8) : Ent := .rd o 1 (List.map rB l)
@[reducible] def o5 (o : Option Addr) (c : Nat) (l : List UInt8) : Ent := .osl o c 5 1 (List.map rB l)

def m___extent_Map__is (F : Nat) : Option (Unit) :=
  some ()

def m___extent_Map__Read (F : Nat) (a1 : Int) (a2 : Int) : Option (Int) :=
  (m___extent_Map__is F).bind (fun y3 => some 14)

def m___extent_Map__Extents (F : Nat) : Option (Unit) :=
  (m___extent_Map__is F).bind (fun y4 => some ())

def m___extent_Map__may (F : Nat) (a1 : Int) (a2 : Int) : Option (Int) :=
  (m___extent_Map__is F).bind (fun y3 => some 14)

def m___extent_Map__Write (F : Nat) (a1 : Int) (a2 : List UInt8) : Option (Int) :=
  (m___extent_Map__may F a1 ((a2.length : Nat) : Int)).bind (fun y3 => jn (fun (v22_1 : Bool) => (bif v22_1 then some y3 else none)) (fun (J7 : Bool → Option (Int)) => (bif y3 != 0 then J7 true else J7 (((a2.length : Nat) : Int) == 0))))

def m___extent_Map__Zero (F : Nat) (a1 : Int) (a2 : Int) : Option (Int) :=
  (m___extent_Map__may F a1 a2).bind (fun y3 => jn (fun (v17_1 : Bool) => (bif v17_1 then some y3 else none)) (fun (J7 : Bool → Option (Int)) => (bif y3 != 0 then J7 true else J7 (a2 == 0))))

def m___extent_Map__Truncate (F : Nat) (a1 : Int) : Option (Int) :=
  (m___extent_Map__may F 0 a1).bind (fun y3 => (bif y3 != 0 then some y3 else none))

def m___extent_Map__Size (F : Nat) : Option (Int) :=
  (m___extent_Map__is F).bind (fun y3 => some 0)

def m___extent_Map__Bytes (F : Nat) : Option (Unit) :=
  (m___extent_Map__is F).bind (fun y3 => some ())

def m___extent_Map__Copy (F : Nat) : Option (Unit) :=
  (m___extent_Map__is F).bind (fun y3 => some ())

def m___extent_Map__Extents_1 (F : Nat) {Ty : Type} (ky : Ty → (Int × List UInt8) → Option (Bool × Ty)) (a0s : Ty) : Option (Ty) :=
  some a0s

def m_extent_New (F : Nat) : Option (Unit) :=
  some ()

def m___extent_Map__is_2 (F : Nat) : Option (Unit) :=
  some ()

def m___extent_Map__may_2 (F : Nat) : Option (Unit) :=
  (m___extent_Map__is_2 F).bind (fun y3 => some ())

def m___extent_Map__clear (F : Nat) : Option (Unit) :=
  some ()

def m___extent_Map__Write_2 (F : Nat) : Option (Unit) :=
  (m___extent_Map__may_2 F).bind (fun y3 => (m___extent_Map__clear F).bind (fun y7 => some ()))

def m___extent_Map__is_3 (F : Nat) : Option (Unit) :=
  some ()

def m___extent_Map__may_3 (F : Nat) : Option (Unit) :=
  (m___extent_Map__is_3 F).bind (fun y3 => some ())

def m___extent_run__end (F : Nat) : Option (Unit) :=
  some ()

def m___extent_Map__clear_1 (F : Nat) : Option (Unit) :=
  some ()

def m___extent_Map__clear_2 (F : Nat) : Option (Unit) :=
  (m___extent_run__end F).bind (fun y8 => (m___extent_Map__clear_1 F).bind (fun y11 => some ()))

def m___extent_run__end_2 (F : Nat) : Option (Unit) :=
  some ()

def m___extent_Map__Write_3 (F : Nat) : Option (Unit) :=
  (m___extent_Map__may_3 F).bind (fun y3 => (m___extent_Map__clear_2 F).bind (fun y7 => (m___extent_run__end_2 F).bind (fun y23 => some ())))

def m___extent_Map__is_4 (F : Nat) : Option (Unit) :=
  some ()

def m___extent_Map__may_4 (F : Nat) : Option (Unit) :=
  (m___extent_Map__is_4 F).bind (fun y3 => some ())

def m___extent_run__end_3 (F : Nat) : Option (Unit) :=
  some ()

def m___extent_Map__clear_1_2 (F : Nat) : Option (Unit) :=
  some ()

def m___extent_Map__clear_1_3 (F : Nat) : Option (Unit) :=
  some ()

def m___extent_Map__clear_3 (F : Nat) : Option (Unit) :=
  (m___extent_run__end_3 F).bind (fun y8 => (m___extent_Map__clear_1_2 F).bind (fun y12 => (m___extent_run__end_3 F).bind (fun y16 => (m___extent_Map__clear_1_3 F).bind (fun y19 => some ()))))

def m___extent_Map__Zero_2 (F : Nat) : Option (Unit) :=
  (m___extent_Map__may_4 F).bind (fun y3 => (m___extent_Map__clear_3 F).bind (fun y7 => some ()))

def m___extent_Map__clear_4 (F : Nat) : Option (Unit) :=
  (m___extent_run__end_3 F).bind (fun y8 => (m___extent_Map__clear_1_2 F).bind (fun y12 => (m___extent_run__end_3 F).bind (fun y16 => (m___extent_Map__clear_1_3 F).bind (fun y19 => some ()))))

def m___extent_Map__Zero_3 (F : Nat) : Option (Unit) :=
  (m___extent_Map__may_4 F).bind (fun y3 => (m___extent_Map__clear_4 F).bind (fun y7 => some ()))

def m___extent_Map__is_5 (F : Nat) : Option (Unit) :=
  some ()

def m___extent_Map__Extents_2 (F : Nat) : Option (Unit) :=
  (m___extent_Map__is_5 F).bind (fun y4 => some ())

def m___extent_Map__Extents_1_2 (F : Nat) : Option (Unit) :=
  some ()

def m___extent_Map__Bytes_2 (F : Nat) : Option (Unit) :=
  (m___extent_Map__is_5 F).bind (fun y3 => (m___extent_Map__Extents_2 F).bind (fun y7 => (m___extent_Map__Extents_1_2 F).bind (fun y18 => some ())))

def m___extent_Map__may_5 (F : Nat) : Option (Unit) :=
  (m___extent_Map__is_5 F).bind (fun y3 => some ())

def m___extent_Map__Write_4 (F : Nat) : Option (Unit) :=
  (m___extent_Map__may_5 F).bind (fun y3 => some ())

def m_tholelaw05_lives (F : Nat) : Option (Unit) :=
  (m_extent_New F).bind (fun y3 => (m___extent_Map__Write_2 F).bind (fun y9 => (m___extent_Map__Write_3 F).bind (fun y18 => (m___extent_Map__Zero_3 F).bind (fun y27 => (m___extent_Map__Bytes_2 F).bind (fun y37 => (m___extent_Map__Write_4 F).bind (fun y42 => some ()))))))

def m_tholelaw05_ExtentNone (F : Nat) (a0_Kind : Int) (a0_A : Int) (a0_B : Int) (a0_Data : List UInt8) : Option (Bool) :=
  (m___extent_Map__Read F a0_A a0_B).bind (fun y4 => (m___extent_Map__Extents F).bind (fun y7 => jn (fun (v69_1 : Bool) => (bif v69_1 then some false else (m___extent_Map__Extents_1 F (fun (t : Nat × Unit) (x : Int × List UInt8) => grd (t.1 = 0) ((fun (s37 : Int × List UInt8) => match s37 with | (p35_0, p35_1) => some (false, (1, ()))) x)) (0, ())).bind (fun y38 => (bif (y38.1 == 0) then (m_tholelaw05_lives F).bind (fun y43 => some true) else some false)))) (fun (J29 : Bool → Option (Bool)) => (bif y4 != 14 then J29 true else (m___extent_Map__Write F a0_A a0_Data).bind (fun y13 => (bif y13 != 14 then J29 true else (m___extent_Map__Zero F a0_A a0_B).bind (fun y16 => (bif y16 != 14 then J29 true else (m___extent_Map__Truncate F a0_A).bind (fun y19 => (bif y19 != 14 then J29 true else (m___extent_Map__Size F).bind (fun y22 => (bif y22 != 0 then J29 true else (m___extent_Map__Bytes F).bind (fun y25 => (m___extent_Map__Copy F).bind (fun y27 => J29 false))))))))))))))

end Go.Proofs.Ytmdfkklldbfocaa
