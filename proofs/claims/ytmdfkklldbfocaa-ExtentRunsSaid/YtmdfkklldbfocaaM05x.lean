/-
  CHAPTER 05x: the models of its functions.
-/
import Derived.Test.YtmdfkklldbfocaaProg
import Derived.Test.YtmdfkklldbfocaaGxj
set_option linter.unusedVariables false
set_option linter.unusedSimpArgs false
set_option maxRecDepth 100000
namespace Go.Proofs.Ytmdfkklldbfocaa
open Go Go.RowKit Sx

structure S_extent_run where
  at_ : Int
  b : List UInt8
def dS_extent_run : S_extent_run := S_extent_run.mk 0 ([] : List UInt8)

structure S_tholelaw05_Act where
  Kind : Int
  A : Int
  B : Int
  Data : List UInt8
def dS_tholelaw05_Act : S_tholelaw05_Act := S_tholelaw05_Act.mk 0 0 0 ([] : List UInt8)

@[reducible] def nR37 (h : Hd) (x : S_tholelaw05_Act) : List Value := [.int .i64 x.Kind, .int .i64 x.A, .int .i64 x.B, .slice ((h 0).1) x.Data.length ((h 0).2)]
@[reducible] def nI37 (h : Hd) (x : S_tholelaw05_Act) : List Ent := [.osl (h 0).1 (h 0).2 5 1 (List.map rB x.Data)]
@[reducible] def nJ37 (h : Hd) (x : S_tholelaw05_Act) : List Ent := [.rd (h 0).1 1 (List.map rB x.Data), Ent.fact (x.Data.length ≤ (h 0).2)]
theorem nC37 (h : Hd) (x : S_tholelaw05_Act) : ∀ e' ∈ nJ37 h x, ∃ e ∈ nI37 h x, Cov e e' := by
  intro e' he
  simp only [List.mem_cons, List.not_mem_nil, or_false] at he
  rcases he with rfl | rfl
  · exact ⟨_, .head _, Cov.osl_rd⟩
  · exact ⟨_, .head _, Cov.osl_fact⟩
theorem nE37 : ∀ e ∈ nI37 nilH dS_tholelaw05_Act, Emp e := by
  intro e he
  simp only [List.mem_cons, List.not_mem_nil, or_false] at he
  rcases he with rfl <;> exact emp_osl

@[reducible] def nR59 (h : Hd) (x : S_extent_run) : List Value := [.int .i64 x.at_, .slice ((h 0).1) x.b.length ((h 0).2), .pointer none]
@[reducible] def nI59 (h : Hd) (x : S_extent_run) : List Ent := [.osl (h 0).1 (h 0).2 5 1 (List.map rB x.b)]
@[reducible] def nJ59 (h : Hd) (x : S_extent_run) : List Ent := [.rd (h 0).1 1 (List.map rB x.b), Ent.fact (x.b.length ≤ (h 0).2)]
theorem nC59 (h : Hd) (x : S_extent_run) : ∀ e' ∈ nJ59 h x, ∃ e ∈ nI59 h x, Cov e e' := by
  intro e' he
  simp only [List.mem_cons, List.not_mem_nil, or_false] at he
  rcases he with rfl | rfl
  · exact ⟨_, .head _, Cov.osl_rd⟩
  · exact ⟨_, .head _, Cov.osl_fact⟩
theorem nE59 : ∀ e ∈ nI59 nilH dS_extent_run, Emp e := by
  intro e he
  simp only [List.mem_cons, List.not_mem_nil, or_false] at he
  rcases he with rfl <;> exact emp_osl

@[reducible] def nX59 (h : Hd) (q : Value) (x : S_extent_run) : List Value := [.int .i64 x.at_, .slice ((h 0).1) x.b.length ((h 0).2), q]

@[reducible] def r5 (o : Option Addr) (l : List UInt8) : Ent := .rd o 1 (List.map rB l)
@[reducible] def o5 (o : Option Addr) (c : Nat) (l : List UInt8) : Ent := .osl o c 5 1 (List.map rB l)

def m_extent_New (F : Nat) : Option (Int) :=
  some 0

def m___extent_Map__is (F : Nat) (a0_size : Int) : Option (Unit) :=
  some ()

def m___extent_Map__may (F : Nat) (a0_size : Int) (a1 : Int) (a2 : Int) : Option (Int) :=
  (m___extent_Map__is F a0_size).bind (fun y3 => jn (fun (v11_1 : Bool) => (bif v11_1 then some 22 else jn (fun (v18_2 : Bool) => (bif v18_2 then some 27 else some 0)) (fun (J15 : Bool → Option (Int)) => (bif decide (a1 > 4096) then J15 true else grd (I64 (4096 - a1)) (J15 (decide (a2 > (4096 - a1)))))))) (fun (J7 : Bool → Option (Int)) => (bif decide (a1 < 0) then J7 true else J7 (decide (a2 < 0)))))

def m___extent_run__end (F : Nat) (a0_at_ : Int) (a0_b : List UInt8) : Option (Int) :=
  grd (I64 (a0_at_ + ((a0_b.length : Nat) : Int))) (some (a0_at_ + ((a0_b.length : Nat) : Int)))

def m___extent_Map__clear_1 (F : Nat) (a0 : Int) (a1 : List UInt8) (a2_0_2 : Int) : Option (Int × Int) :=
  grd ((decide (((a1.length : Nat) : Int) > 0)) = true) (some (a0, a2_0_2))

def m___extent_Map__clear_1_2 (F : Nat) (a0 : Int) (a1 : List UInt8) (a2_0_0 : Int) (a2_0_1 : List UInt8) : Option (Int × Int) :=
  grd ((decide (((a1.length : Nat) : Int) > 0)) = true) (some (a2_0_0, a0))

def m___extent_Map__clear (F : Nat) (a0_first_l : List S_extent_run) (a0_size : Int) (a1 : Int) (a2 : Int) : Option (List S_extent_run × Int) :=
  loopW (fun (nx770 : List S_extent_run → Option (List S_extent_run × Int)) (l1_1 : List S_extent_run) => (lcase l1_1 (some (([] : List S_extent_run), a0_size)) (fun (x516 : S_extent_run) (x517 : List S_extent_run) => jn (fun (s782 : Int × List S_extent_run × Int × List UInt8) => match s782 with | (c2_2_36, l14_36, c10_0_36, l30000_36) => loopW (fun (nx762 : List S_extent_run × List S_extent_run × Int × List UInt8 → Option (List S_extent_run × Int)) (s781 : List S_extent_run × List S_extent_run × Int × List UInt8) => match s781 with | (l6_37, l14_37, c10_0_37, l30000_37) => (lcase l6_37 (some ((l14_37 ++ [(S_extent_run.mk c10_0_37 l30000_37)]), c2_2_36)) (fun (x700 : S_extent_run) (x701 : List S_extent_run) => jn (fun (v39_46 : Bool) => (bif v39_46 then (m___extent_Map__clear_1_2 F x700.at_ x700.b c10_0_37 l30000_37).bind (fun y719 => nx762 (x701, (l14_37 ++ [(S_extent_run.mk y719.1 l30000_37)]), y719.2, x700.b)) else jn (fun (s780 : List S_extent_run × Int × List UInt8) => match s780 with | (l14_47, c30007_0_47, l30006_47) => (m___extent_run__end F x700.at_ x700.b).bind (fun y735 => (bif decide (y735 > a2) then grd (I64 (a2 - x700.at_)) (grd (Bd (a2 - x700.at_) x700.b.length) ((m___extent_Map__clear_1_2 F a2 ((x700.b.drop (Int.toNat (a2 - x700.at_))).take (x700.b.length - (Int.toNat (a2 - x700.at_)))) c30007_0_47 l30006_47).bind (fun y741 => nx762 (x701, (l14_47 ++ [(S_extent_run.mk y741.1 l30006_47)]), y741.2, ((x700.b.drop (Int.toNat (a2 - x700.at_))).take (x700.b.length - (Int.toNat (a2 - x700.at_)))))))) else nx762 (x701, l14_47, c30007_0_47, l30006_47)))) (fun (J730 : List S_extent_run × Int × List UInt8 → Option (List S_extent_run × Int)) => (bif decide (x700.at_ < a1) then grd (I64 (a1 - x700.at_)) (grd (Bd (a1 - x700.at_) x700.b.length) ((m___extent_Map__clear_1_2 F x700.at_ (x700.b.take (Int.toNat (a1 - x700.at_))) c10_0_37 l30000_37).bind (fun y727 => J730 ((l14_37 ++ [(S_extent_run.mk y727.1 l30000_37)]), y727.2, (x700.b.take (Int.toNat (a1 - x700.at_))))))) else J730 (l14_37, c10_0_37, l30000_37))))) (fun (J714 : Bool → Option (List S_extent_run × Int)) => (m___extent_run__end F x700.at_ x700.b).bind (fun y711 => (bif decide (y711 ≤ a1) then J714 true else J714 (decide (x700.at_ ≥ a2)))))))) F (x517, l14_36, c10_0_36, l30000_36)) (fun (J570 : Int × List S_extent_run × Int × List UInt8 → Option (List S_extent_run × Int)) => jn (fun (v39_34 : Bool) => (bif v39_34 then (m___extent_Map__clear_1 F x516.at_ x516.b a0_size).bind (fun y531 => J570 (y531.2, ([] : List S_extent_run), y531.1, x516.b)) else (bif decide (x516.at_ < a1) then grd (I64 (a1 - x516.at_)) (grd (Bd (a1 - x516.at_) x516.b.length) ((m___extent_Map__clear_1 F x516.at_ (x516.b.take (Int.toNat (a1 - x516.at_))) a0_size).bind (fun y539 => (m___extent_run__end F x516.at_ x516.b).bind (fun y547 => (bif decide (y547 > a2) then grd (I64 (a2 - x516.at_)) (grd (Bd (a2 - x516.at_) x516.b.length) ((m___extent_Map__clear_1_2 F a2 ((x516.b.drop (Int.toNat (a2 - x516.at_))).take (x516.b.length - (Int.toNat (a2 - x516.at_)))) y539.1 (x516.b.take (Int.toNat (a1 - x516.at_)))).bind (fun y553 => J570 (y539.2, (([] : List S_extent_run) ++ [(S_extent_run.mk y553.1 (x516.b.take (Int.toNat (a1 - x516.at_))))]), y553.2, ((x516.b.drop (Int.toNat (a2 - x516.at_))).take (x516.b.length - (Int.toNat (a2 - x516.at_)))))))) else J570 (y539.2, ([] : List S_extent_run), y539.1, (x516.b.take (Int.toNat (a1 - x516.at_))))))))) else (m___extent_run__end F x516.at_ x516.b).bind (fun y561 => (bif decide (y561 > a2) then grd (I64 (a2 - x516.at_)) (grd (Bd (a2 - x516.at_) x516.b.length) ((m___extent_Map__clear_1 F a2 ((x516.b.drop (Int.toNat (a2 - x516.at_))).take (x516.b.length - (Int.toNat (a2 - x516.at_)))) a0_size).bind (fun y567 => J570 (y567.2, ([] : List S_extent_run), y567.1, ((x516.b.drop (Int.toNat (a2 - x516.at_))).take (x516.b.length - (Int.toNat (a2 - x516.at_)))))))) else nx770 x517))))) (fun (J526 : Bool → Option (List S_extent_run × Int)) => (m___extent_run__end F x516.at_ x516.b).bind (fun y523 => (bif decide (y523 ≤ a1) then J526 true else J526 (decide (x516.at_ ≥ a2))))))))) F a0_first_l

def m___extent_Map__Write (F : Nat) (a0_first_l : List S_extent_run) (a0_size : Int) (a1 : Int) (a2 : List UInt8) : Option (Int × List S_extent_run × Int) :=
  (m___extent_Map__may F a0_size a1 ((a2.length : Nat) : Int)).bind (fun y3 => jn (fun (v22_1 : Bool) => (bif v22_1 then some (y3, a0_first_l, a0_size) else grd (I64 (a1 + ((a2.length : Nat) : Int))) ((m___extent_Map__clear F a0_first_l a0_size a1 (a1 + ((a2.length : Nat) : Int))).bind (fun y14 => grd (App a2.length 1) ((lcase y14.1 (some (0, (([] : List S_extent_run) ++ [(S_extent_run.mk a1 a2)]), (if (a1 + ((a2.length : Nat) : Int)) > y14.2 then (a1 + ((a2.length : Nat) : Int)) else y14.2))) (fun (x24 : S_extent_run) (x25 : List S_extent_run) => (bif decide (x24.at_ < a1) then loopW (fun (nx74 : Int × List S_extent_run × List UInt8 × List S_extent_run → Option (Int × List S_extent_run × Int)) (s172 : Int × List S_extent_run × List UInt8 × List S_extent_run) => match s172 with | (c9_0_3, l13_3, l11_3, l10_3) => (lcase l10_3 ((m___extent_run__end F c9_0_3 l11_3).bind (fun y90 => (bif y90 == a1 then grd (App ((l11_3.take l11_3.length).length + a2.length) 1) (grd (1 ≤ a2.length) (some (0, (l13_3 ++ [(S_extent_run.mk c9_0_3 ((l11_3.take l11_3.length) ++ a2))]), (if (a1 + ((a2.length : Nat) : Int)) > y14.2 then (a1 + ((a2.length : Nat) : Int)) else y14.2)))) else some (0, ((l13_3 ++ [(S_extent_run.mk c9_0_3 l11_3)]) ++ [(S_extent_run.mk a1 a2)]), (if (a1 + ((a2.length : Nat) : Int)) > y14.2 then (a1 + ((a2.length : Nat) : Int)) else y14.2))))) (fun (x61 : S_extent_run) (x62 : List S_extent_run) => (bif decide (x61.at_ < a1) then nx74 (x61.at_, (l13_3 ++ [(S_extent_run.mk c9_0_3 l11_3)]), x61.b, x62) else (m___extent_run__end F a1 a2).bind (fun y108 => (bif x61.at_ == y108 then grd (App (a2.length + x61.b.length) 1) ((m___extent_run__end F c9_0_3 l11_3).bind (fun y114 => (bif y114 == a1 then grd (App ((l11_3.take l11_3.length).length + (a2 ++ x61.b).length) 1) (grd (1 ≤ (a2 ++ x61.b).length) (some (0, ((l13_3 ++ [(S_extent_run.mk c9_0_3 ((l11_3.take l11_3.length) ++ (a2 ++ x61.b)))]) ++ x62), (if (a1 + ((a2.length : Nat) : Int)) > y14.2 then (a1 + ((a2.length : Nat) : Int)) else y14.2)))) else some (0, (((l13_3 ++ [(S_extent_run.mk c9_0_3 l11_3)]) ++ [(S_extent_run.mk a1 (a2 ++ x61.b))]) ++ x62), (if (a1 + ((a2.length : Nat) : Int)) > y14.2 then (a1 + ((a2.length : Nat) : Int)) else y14.2))))) else (m___extent_run__end F c9_0_3 l11_3).bind (fun y131 => (bif y131 == a1 then grd (App ((l11_3.take l11_3.length).length + a2.length) 1) (grd (1 ≤ a2.length) (some (0, (((l13_3 ++ [(S_extent_run.mk c9_0_3 ((l11_3.take l11_3.length) ++ a2))]) ++ [x61]) ++ x62), (if (a1 + ((a2.length : Nat) : Int)) > y14.2 then (a1 + ((a2.length : Nat) : Int)) else y14.2)))) else some (0, ((((l13_3 ++ [(S_extent_run.mk c9_0_3 l11_3)]) ++ [(S_extent_run.mk a1 a2)]) ++ [x61]) ++ x62), (if (a1 + ((a2.length : Nat) : Int)) > y14.2 then (a1 + ((a2.length : Nat) : Int)) else y14.2)))))))))) F (x24.at_, ([] : List S_extent_run), x24.b, x25) else (lcase ((([] : List S_extent_run) ++ [x24]) ++ x25) (some (0, (([] : List S_extent_run) ++ [(S_extent_run.mk a1 a2)]), (if (a1 + ((a2.length : Nat) : Int)) > y14.2 then (a1 + ((a2.length : Nat) : Int)) else y14.2))) (fun (x149 : S_extent_run) (x150 : List S_extent_run) => (m___extent_run__end F a1 a2).bind (fun y162 => (bif x149.at_ == y162 then grd (App (a2.length + x149.b.length) 1) (some (0, ((([] : List S_extent_run) ++ [(S_extent_run.mk a1 (a2 ++ x149.b))]) ++ x150), (if (a1 + ((a2.length : Nat) : Int)) > y14.2 then (a1 + ((a2.length : Nat) : Int)) else y14.2))) else some (0, (((([] : List S_extent_run) ++ [(S_extent_run.mk a1 a2)]) ++ [x149]) ++ x150), (if (a1 + ((a2.length : Nat) : Int)) > y14.2 then (a1 + ((a2.length : Nat) : Int)) else y14.2)))))))))))))) (fun (J7 : Bool → Option (Int × List S_extent_run × Int)) => (bif y3 != 0 then J7 true else J7 (((a2.length : Nat) : Int) == 0))))

def m_extent_New_2 (F : Nat) : Option (Unit) :=
  some ()

def m___extent_Map__is_2 (F : Nat) : Option (Unit) :=
  some ()

def m___extent_Map__may_2 (F : Nat) : Option (Unit) :=
  (m___extent_Map__is_2 F).bind (fun y3 => some ())

def m___extent_Map__clear_2 (F : Nat) : Option (Unit) :=
  some ()

def m___extent_Map__Write_2 (F : Nat) : Option (Unit) :=
  (m___extent_Map__may_2 F).bind (fun y3 => (m___extent_Map__clear_2 F).bind (fun y7 => some ()))

def m___extent_Map__is_3 (F : Nat) : Option (Unit) :=
  some ()

def m___extent_Map__may_3 (F : Nat) : Option (Unit) :=
  (m___extent_Map__is_3 F).bind (fun y3 => some ())

def m___extent_run__end_2 (F : Nat) : Option (Unit) :=
  some ()

def m___extent_Map__clear_1_3 (F : Nat) : Option (Unit) :=
  some ()

def m___extent_Map__clear_3 (F : Nat) : Option (Unit) :=
  (m___extent_run__end_2 F).bind (fun y8 => (m___extent_Map__clear_1_3 F).bind (fun y11 => some ()))

def m___extent_run__end_3 (F : Nat) : Option (Unit) :=
  some ()

def m___extent_Map__Write_3 (F : Nat) : Option (Unit) :=
  (m___extent_Map__may_3 F).bind (fun y3 => (m___extent_Map__clear_3 F).bind (fun y7 => (m___extent_run__end_3 F).bind (fun y23 => some ())))

def m___extent_Map__is_4 (F : Nat) : Option (Unit) :=
  some ()

def m___extent_Map__may_4 (F : Nat) : Option (Unit) :=
  (m___extent_Map__is_4 F).bind (fun y3 => some ())

def m___extent_run__end_4 (F : Nat) : Option (Unit) :=
  some ()

def m___extent_Map__clear_1_4 (F : Nat) : Option (Unit) :=
  some ()

def m___extent_Map__clear_1_5 (F : Nat) : Option (Unit) :=
  some ()

def m___extent_Map__clear_4 (F : Nat) : Option (Unit) :=
  (m___extent_run__end_4 F).bind (fun y8 => (m___extent_Map__clear_1_4 F).bind (fun y12 => (m___extent_run__end_4 F).bind (fun y16 => (m___extent_Map__clear_1_5 F).bind (fun y19 => some ()))))

def m___extent_Map__Zero (F : Nat) : Option (Unit) :=
  (m___extent_Map__may_4 F).bind (fun y3 => (m___extent_Map__clear_4 F).bind (fun y7 => some ()))

def m___extent_Map__clear_5 (F : Nat) : Option (Unit) :=
  (m___extent_run__end_4 F).bind (fun y8 => (m___extent_Map__clear_1_4 F).bind (fun y12 => (m___extent_run__end_4 F).bind (fun y16 => (m___extent_Map__clear_1_5 F).bind (fun y19 => some ()))))

def m___extent_Map__Zero_2 (F : Nat) : Option (Unit) :=
  (m___extent_Map__may_4 F).bind (fun y3 => (m___extent_Map__clear_5 F).bind (fun y7 => some ()))

def m___extent_Map__is_5 (F : Nat) : Option (Unit) :=
  some ()

def m___extent_Map__Extents (F : Nat) : Option (Unit) :=
  (m___extent_Map__is_5 F).bind (fun y4 => some ())

def m___extent_Map__Extents_1 (F : Nat) : Option (Unit) :=
  some ()

def m___extent_Map__Bytes (F : Nat) : Option (Unit) :=
  (m___extent_Map__is_5 F).bind (fun y3 => (m___extent_Map__Extents F).bind (fun y7 => (m___extent_Map__Extents_1 F).bind (fun y18 => some ())))

def m___extent_Map__may_5 (F : Nat) : Option (Unit) :=
  (m___extent_Map__is_5 F).bind (fun y3 => some ())

def m___extent_Map__Write_4 (F : Nat) : Option (Unit) :=
  (m___extent_Map__may_5 F).bind (fun y3 => some ())

def m_tholelaw05_lives (F : Nat) : Option (Unit) :=
  (m_extent_New_2 F).bind (fun y3 => (m___extent_Map__Write_2 F).bind (fun y9 => (m___extent_Map__Write_3 F).bind (fun y18 => (m___extent_Map__Zero_2 F).bind (fun y27 => (m___extent_Map__Bytes F).bind (fun y37 => (m___extent_Map__Write_4 F).bind (fun y42 => some ()))))))

def m___extent_Map__Extents_2 (F : Nat) (a0_first_l : List S_extent_run) (a0_size : Int) : Option (List S_extent_run) :=
  (m___extent_Map__is F a0_size).bind (fun y4 => loopW (fun (nx40 : List S_extent_run × List S_extent_run → Option (List S_extent_run)) (s48 : List S_extent_run × List S_extent_run) => match s48 with | (l1_1, l20000_1) => (lcase l1_1 (some l20000_1) (fun (x30 : S_extent_run) (l31 : List S_extent_run) => grd (App x30.b.length 1) (grd (App (l20000_1.length + [x30].length) 40) (nx40 (l31, (l20000_1 ++ [x30]))))))) F (a0_first_l, ([] : List S_extent_run)))

def m___extent_Map__Extents_1_2 (F : Nat) {Ty : Type} (ky : Ty → (Int × List UInt8) → Option (Bool × Ty)) (a0s : Ty) (a1 : List S_extent_run) : Option (Ty) :=
  grd (Len a1.length) (loopL (fun (nx46 : Ty → Option (Ty)) (v7_1 : Nat) (x31 : S_extent_run) (l1_1 : Ty) => grd (App x31.b.length 1) ((ky l1_1 (x31.at_, x31.b)).bind (fun y38 => (bif !y38.1 then some y38.2 else nx46 y38.2)))) (fun (v7_1 : Nat) (l1_1 : Ty) => some l1_1) a1 0 a0s)

def m___extent_Map__Bytes_2 (F : Nat) (a0_first_l : List S_extent_run) (a0_size : Int) : Option (List UInt8) :=
  (m___extent_Map__is F a0_size).bind (fun y3 => grd (0 ≤ a0_size) (grd ((Int.toNat a0_size) * 1 ≤ 281474976710656) (grd (Len (Int.toNat a0_size)) ((m___extent_Map__Extents_2 F a0_first_l a0_size).bind (fun y12 => (m___extent_Map__Extents_1_2 F (fun (t : List UInt8) (x : Int × List UInt8) => (fun (l4_1 : List UInt8) => (fun (s27 : Int × List UInt8) => match s27 with | (p19_0, p19_1) => grd (Bd p19_0 l4_1.length) (grd (1 ≤ p19_1.length) (grd ((Int.toNat p19_0) + p19_1.length ≤ l4_1.length) (some (true, (l4_1.take (Int.toNat p19_0) ++ (p19_1 ++ l4_1.drop ((Int.toNat p19_0) + p19_1.length)))))))) x) t) (List.replicate (Int.toNat a0_size) (0 : UInt8)) y12).bind (fun y28 => some y28))))))

def m___extent_Map__Read (F : Nat) (a0_first_l : List S_extent_run) (a0_size : Int) (a1 : Int) (a2 : Int) : Option (List UInt8 × Int) :=
  (m___extent_Map__is F a0_size).bind (fun y3 => jn (fun (v13_1 : Bool) => (bif v13_1 then some (([] : List UInt8), 22) else (bif decide (a1 ≥ a0_size) then some (([] : List UInt8), 0) else (m___extent_Map__Bytes_2 F a0_first_l a0_size).bind (fun y16 => grd (Bd a1 y16.length) (grd (Bd (if ((((y16.drop (Int.toNat a1)).take (y16.length - (Int.toNat a1))).length : Nat) : Int) < a2 then ((((y16.drop (Int.toNat a1)).take (y16.length - (Int.toNat a1))).length : Nat) : Int) else a2) (((y16.drop (Int.toNat a1)).take (y16.length - (Int.toNat a1))).length)) (some ((((y16.drop (Int.toNat a1)).take (y16.length - (Int.toNat a1))).take (Int.toNat (if ((((y16.drop (Int.toNat a1)).take (y16.length - (Int.toNat a1))).length : Nat) : Int) < a2 then ((((y16.drop (Int.toNat a1)).take (y16.length - (Int.toNat a1))).length : Nat) : Int) else a2))), 0))))))) (fun (J7 : Bool → Option (List UInt8 × Int)) => (bif decide (a1 < 0) then J7 true else J7 (decide (a2 < 0)))))

def m_tholeref01_Same (F : Nat) (a0 : List UInt8) (a1 : List UInt8) : Option (Bool) :=
  some ((ByteArray.mk a0.toArray).toList == (ByteArray.mk a1.toArray).toList)

def m___extent_Map__Zero_3 (F : Nat) (a0_first_l : List S_extent_run) (a0_size : Int) (a1 : Int) (a2 : Int) : Option (Int × List S_extent_run × Int) :=
  (m___extent_Map__may F a0_size a1 a2).bind (fun y3 => jn (fun (v17_1 : Bool) => (bif v17_1 then some (y3, a0_first_l, a0_size) else grd (I64 (a1 + a2)) ((m___extent_Map__clear F a0_first_l a0_size a1 (a1 + a2)).bind (fun y14 => some (0, y14.1, (if (a1 + a2) > y14.2 then (a1 + a2) else y14.2)))))) (fun (J7 : Bool → Option (Int × List S_extent_run × Int)) => (bif y3 != 0 then J7 true else J7 (a2 == 0))))

def m_tholelaw05_ExtentWrites (F : Nat) (a0 : List UInt8) (a1 : List UInt8) (a2_0 : Int) (a2_1 : Int) : Option (Bool) :=
  (m_extent_New F).bind (fun y4 => jn (fun (s162 : Bool × Int × List S_extent_run) => match s162 with | (v43_1, c4_2_1, l5_1) => (bif v43_1 then (m_tholelaw05_lives F).bind (fun y20 => some true) else (m___extent_Map__Write F l5_1 c4_2_1 (IntKind.i64.wrap (Int.tmod a2_0 4000)) a1).bind (fun y24 => (bif y24.1 != 0 then some false else (m___extent_Map__Read F y24.2.1 y24.2.2 (IntKind.i64.wrap (Int.tmod a2_0 4000)) ((a1.length : Nat) : Int)).bind (fun y31 => (m___extent_Map__Read F y24.2.1 y24.2.2 0 (IntKind.i64.wrap (Int.tmod a2_0 4000))).bind (fun y37 => jn (fun (v82_2 : Bool) => (bif v82_2 then some false else grd (Len y37.1.length) (loopL (fun (nx98 : Unit → Option (Bool)) (v85_3 : Nat) (x83 : UInt8) (_ : Unit) => jn (fun (v111_6 : Bool) => (bif v111_6 then some false else nx98 ())) (fun (J90 : Bool → Option (Bool)) => (bif decide (((v85_3 : Nat) : Int) < ((a0.length : Nat) : Int)) then grd (v85_3 < a0.length) ((bif ((x83.toNat : Nat) : Int) != (((a0.getD v85_3 0).toNat : Nat) : Int) then J90 true else (bif decide (((v85_3 : Nat) : Int) ≥ ((a0.length : Nat) : Int)) then J90 (((x83.toNat : Nat) : Int) != 0) else J90 false))) else (bif decide (((v85_3 : Nat) : Int) ≥ ((a0.length : Nat) : Int)) then J90 (((x83.toNat : Nat) : Int) != 0) else J90 false)))) (fun (v85_3 : Nat) (_ : Unit) => (m___extent_Map__Zero_3 F y24.2.1 y24.2.2 (IntKind.i64.wrap (Int.tmod a2_0 4000)) (IntKind.i64.wrap (Int.tmod a2_1 90))).bind (fun y107 => (bif y107.1 != 0 then some false else (m___extent_Map__Read F y107.2.1 y107.2.2 (IntKind.i64.wrap (Int.tmod a2_0 4000)) (IntKind.i64.wrap (Int.tmod a2_1 90))).bind (fun y114 => grd (Len y114.1.length) (loopL (fun (nx150 : Unit → Option (Bool)) (v130_7 : Nat) (x140 : UInt8) (_ : Unit) => (bif ((x140.toNat : Nat) : Int) != 0 then some false else nx150 ())) (fun (v130_7 : Nat) (_ : Unit) => (bif y114.2 == 0 then (bif ((y114.1.length : Nat) : Int) == (IntKind.i64.wrap (Int.tmod a2_1 90)) then (m_tholelaw05_lives F).bind (fun y160 => some true) else some false) else some false)) y114.1 0 ()))))) y37.1 0 ()))) (fun (J47 : Bool → Option (Bool)) => (bif y31.2 != 0 then J47 true else (bif y37.2 != 0 then J47 true else (m_tholeref01_Same F y31.1 a1).bind (fun y45 => J47 (!y45))))))))))) (fun (J15 : Bool × Int × List S_extent_run → Option (Bool)) => (bif decide (((a0.length : Nat) : Int) > 4000) then J15 (true, y4, ([] : List S_extent_run)) else (bif decide (((a1.length : Nat) : Int) > 90) then J15 (true, y4, ([] : List S_extent_run)) else (m___extent_Map__Write F ([] : List S_extent_run) y4 0 a0).bind (fun y11 => J15 ((y11.1 != 0), y11.2.2, y11.2.1))))))

def m___extent_Map__Truncate (F : Nat) (a0_first_l : List S_extent_run) (a0_size : Int) (a1 : Int) : Option (Int × List S_extent_run × Int) :=
  (m___extent_Map__may F a0_size 0 a1).bind (fun y3 => (bif y3 != 0 then some (y3, a0_first_l, a0_size) else (m___extent_Map__clear F a0_first_l a0_size a1 4097).bind (fun y9 => some (0, y9.1, a1))))

def m___extent_Map__Size (F : Nat) (a0_size : Int) : Option (Int) :=
  (m___extent_Map__is F a0_size).bind (fun y3 => some a0_size)

def m_tholelaw05_ExtentRuns (F : Nat) (a0 : List S_tholelaw05_Act) : Option (Bool) :=
  (m_extent_New F).bind (fun y3 => grd (Len a0.length) (loopL (fun (nx151 : Int × List S_extent_run → Option (Bool)) (v17_1 : Nat) (x102 : S_tholelaw05_Act) (s243 : Int × List S_extent_run) => match s243 with | (c4_2_1, l5_1) => (bif x102.Kind == 0 then (m___extent_Map__Write F l5_1 c4_2_1 x102.A x102.Data).bind (fun y111 => nx151 (y111.2.2, y111.2.1)) else (bif x102.Kind == 1 then (m___extent_Map__Zero_3 F l5_1 c4_2_1 x102.A x102.B).bind (fun y118 => nx151 (y118.2.2, y118.2.1)) else (bif x102.Kind == 2 then (m___extent_Map__Truncate F l5_1 c4_2_1 x102.A).bind (fun y125 => nx151 (y125.2.2, y125.2.1)) else nx151 (c4_2_1, l5_1))))) (fun (v17_1 : Nat) (s244 : Int × List S_extent_run) => match s244 with | (c4_2_1, l5_1) => (m___extent_Map__Size F c4_2_1).bind (fun y159 => grd (0 ≤ y159) (grd ((Int.toNat y159) * 1 ≤ 281474976710656) (grd (Len (Int.toNat y159)) ((m___extent_Map__Extents_2 F l5_1 c4_2_1).bind (fun y166 => (m___extent_Map__Extents_1_2 F (fun (t : Nat × List UInt8 × Int) (x : Int × List UInt8) => grd (t.1 = 0) ((fun (s227 : List UInt8 × Int) => match s227 with | (l7_17, c9_0_17) => (fun (s226 : Int × List UInt8) => match s226 with | (p173_0, p173_1) => jn (fun (v69_20 : Bool) => (bif v69_20 then some (false, (1, (l7_17, c9_0_17))) else grd (Len p173_1.length) (loopL (fun (nx217 : List UInt8 → Option (Bool × (Nat × List UInt8 × Int))) (v72_21 : Nat) (x207 : UInt8) (l7_21 : List UInt8) => grd (I64 (p173_0 + ((v72_21 : Nat) : Int))) (grd (Ix (p173_0 + ((v72_21 : Nat) : Int)) l7_21.length) (nx217 (l7_21.set (Int.toNat (p173_0 + ((v72_21 : Nat) : Int))) x207)))) (fun (v72_21 : Nat) (l7_21 : List UInt8) => grd (I64 (p173_0 + ((p173_1.length : Nat) : Int))) (some (true, (0, (l7_21, (p173_0 + ((p173_1.length : Nat) : Int))))))) p173_1 0 l7_17))) (fun (J180 : Bool → Option (Bool × (Nat × List UInt8 × Int))) => (bif ((p173_1.length : Nat) : Int) == 0 then J180 true else (bif decide (p173_0 ≤ c9_0_17) then J180 true else grd (I64 (p173_0 + ((p173_1.length : Nat) : Int))) (J180 (decide ((p173_0 + ((p173_1.length : Nat) : Int)) > ((l7_17.length : Nat) : Int)))))))) x) t.2)) (0, ((List.replicate (Int.toNat y159) (0 : UInt8)), (-1))) y166).bind (fun y228 => (bif (y228.1 == 0) then (m___extent_Map__Bytes_2 F l5_1 c4_2_1).bind (fun y233 => (m_tholeref01_Same F y228.2.1 y233).bind (fun y237 => (bif y237 then (m_tholelaw05_lives F).bind (fun y240 => some true) else some false))) else some false)))))))) a0 0 (y3, ([] : List S_extent_run))))

end Go.Proofs.Ytmdfkklldbfocaa
