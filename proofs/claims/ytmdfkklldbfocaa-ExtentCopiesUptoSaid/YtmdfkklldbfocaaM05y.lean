/-
  CHAPTER 05y: the models of its functions.
-/
import Derived.Test.YtmdfkklldbfocaaProg
import Derived.Test.YtmdfkklldbfocaaGxk
set_option linter.unusedVariables false
set_option linter.unusedSimpArgs false
set_option maxRecDepth 100000
namespace Go.Proofs.Ytmdfkklldbfocaa
open Go Go.RowKit Sx

structure S_tholelaw05_Act where
  Kind : Int
  A : Int
  B : Int
  Data : List UInt8
def dS_tholelaw05_Act : S_tholelaw05_Act := S_tholelaw05_Act.mk 0 0 0 ([] : List UInt8)

structure S_extent_run where
  at_ : Int
  b : List UInt8
def dS_extent_run : S_extent_run := S_extent_run.mk 0 ([] : List UInt8)

structure S_tholeref05_Run where
  At : Int
  B : List UInt8
def dS_tholeref05_Run : S_tholeref05_Run := S_tholeref05_Run.mk 0 ([] : List UInt8)

@[reducible] def nR37 (h : Hd) (x : S_tholelaw05_Act) : List Value := [.int .i64 x.Kind, .int .i64 x.A, .int .i64 x.B, .slice ((h 0).1) x.Data.length ((h 0).2)]
@[reducible] def nI37 (h : Hd) (x : S_tholelaw05_Act) : List Ent := [.osl (h 0).1 (h 0).2 5 1 (List.map rB x.Data)]
@[reducible] def nJ37 (h : Hd) (x : S_tholelaw05_Act) : List Ent := [.rd (h 0).1 1 (List.map rB x.Data), Ent.fact (x.Data.length ≤ (h 0).2)]
theorem nC37 (h : Hd) (x : S_tholelaw05_Act) : ∀ e' ∈ nJ37 h x, ∃ e ∈ nI37 h x, Cov e e' := by
  intro e' he
  simp only [List.mem_cons, List.not_mem_nil, or_false] at he
  rcases he with rfl | rfl
  · exact ⟨_, .head _, Cov.osl_rd⟩
  · exact ⟨_, .head _, Cov.osl_fact⟩
theorem nE37 : ∀ e ∈ nI37 nilH dS_tholelaw05_Act, Emp e := by
  intro e he
  simp only [List.mem_cons, List.not_mem_nil, or_false] at he
  rcases he with rfl <;> exact emp_osl

@[reducible] def nR59 (h : Hd) (x : S_extent_run) : List Value := [.int .i64 x.at_, .slice ((h 0).1) x.b.length ((h 0).2), .pointer none]
@[reducible] def nI59 (h : Hd) (x : S_extent_run) : List Ent := [.osl (h 0).1 (h 0).2 5 1 (List.map rB x.b)]
@[reducible] def nJ59 (h : Hd) (x : S_extent_run) : List Ent := [.rd (h 0).1 1 (List.map rB x.b), Ent.fact (x.b.length ≤ (h 0).2)]
theorem nC59 (h : Hd) (x : S_extent_run) : ∀ e' ∈ nJ59 h x, ∃ e ∈ nI59 h x, Cov e e' := by
  intro e' he
  simp only [List.mem_cons, List.not_mem_nil, or_false] at he
  rcases he with rfl | rfl
  · exact ⟨_, .head _, Cov.osl_rd⟩
  · exact ⟨_, .head _, Cov.osl_fact⟩
theorem nE59 : ∀ e ∈ nI59 nilH dS_extent_run, Emp e := by
  intro e he
  simp only [List.mem_cons, List.not_mem_nil, or_false] at he
  rcases he with rfl <;> exact emp_osl

@[reducible] def nR73 (h : Hd) (x : S_tholeref05_Run) : List Value := [.int .i64 x.At, .slice ((h 0).1) x.B.length ((h 0).2)]
@[reducible] def nI73 (h : Hd) (x : S_tholeref05_Run) : List Ent := [.osl (h 0).1 (h 0).2 5 1 (List.map rB x.B)]
@[reducible] def nJ73 (h : Hd) (x : S_tholeref05_Run) : List Ent := [.rd (h 0).1 1 (List.map rB x.B), Ent.fact (x.B.length ≤ (h 0).2)]
theorem nC73 (h : Hd) (x : S_tholeref05_Run) : ∀ e' ∈ nJ73 h x, ∃ e ∈ nI73 h x, Cov e e' := by
  intro e' he
  simp only [List.mem_cons, List.not_mem_nil, or_false] at he
  rcases he with rfl | rfl
  · exact ⟨_, .head _, Cov.osl_rd⟩
  · exact ⟨_, .head _, Cov.osl_fact⟩
theorem nE73 : ∀ e ∈ nI73 nilH dS_tholeref05_Run, Emp e := by
  intro e he
  simp only [List.mem_cons, List.not_mem_nil, or_false] at he
  rcases he with rfl <;> exact emp_osl

@[reducible] def nX59 (h : Hd) (q : Value) (x : S_extent_run) : List Value := [.int .i64 x.at_, .slice ((h 0).1) x.b.length ((h 0).2), q]

@[reducible] def r4 (o : Option Addr) (l : List Bool) : Ent := .rd o 1 (List.map rBo l)
@[reducible] def o4 (o : Option Addr) (c : Nat) (l : List Bool) : Ent := .osl o c 4 1 (List.map rBo l)
@[reducible] def r5 (o : Option Addr) (l : List UInt8) : Ent := .rd o 1 (List.map rB l)
@[reducible] def o5 (o : Option Addr) (c : Nat) (l : List UInt8) : Ent := .osl o c 5 1 (List.map rB l)

def m_extent_New (F : Nat) : Option (Int) :=
  some 0

def m___extent_Map__is (F : Nat) (a : Int) : Option (Unit) :=
  some ()

def m___extent_Map__Extents (F : Nat) (c : List S_extent_run) (d : Int) : Option (List S_extent_run) :=
  (m___extent_Map__is F d).bind (fun y4 => loopW (fun (f : List S_extent_run × List S_extent_run → Option (List S_extent_run)) (h : List S_extent_run × List S_extent_run) => match h with | (g, a) => (lcase g (some a) (fun (e : S_extent_run) (i : List S_extent_run) => grd (App e.b.length 1) (grd (App (a.length + [e].length) 40) (f (i, (a ++ [e]))))))) F (c, ([] : List S_extent_run)))

def m___extent_Map__Extents_1 (F : Nat) {Ty : Type} (ky : Ty → (Int × List UInt8) → Option (Bool × Ty)) (a0s : Ty) (a1 : List S_extent_run) : Option (Ty) :=
  grd (Len a1.length) (loopL (fun (e : Ty → Option (Ty)) (f : Nat) (c : S_extent_run) (a : Ty) => grd (App c.b.length 1) ((ky a (c.at_, c.b)).bind (fun d => (bif !d.1 then some d.2 else e d.2)))) (fun (f : Nat) (a : Ty) => some a) a1 0 a0s)

def m___extent_Map__Copy (F : Nat) (b : List S_extent_run) (a : Int) : Option (List S_extent_run × Int) :=
  (m___extent_Map__is F a).bind (fun y3 => (m_extent_New F).bind (fun y6 => (m___extent_Map__Extents F b a).bind (fun k => (m___extent_Map__Extents_1 F (fun (t : Nat × List S_extent_run × Int × List UInt8) (x : Int × List UInt8) => bif t.1 == 0 then (fun (l : Int × List UInt8) => match l with | (d, e) => some (true, (1, (([] : List S_extent_run), d, e)))) x else grd (t.1 = 1) ((fun (m : List S_extent_run × Int × List UInt8) => match m with | (f, c, g) => (fun (n : Int × List UInt8) => match n with | (d, e) => some (true, (1, ((f ++ [(S_extent_run.mk c g)]), d, e)))) x) t.2)) (0, ([], 0, [])) k).bind (fun h => jn (fun (i : List S_extent_run) => some (i, a)) (fun (j : List S_extent_run → Option (List S_extent_run × Int)) => (bif (h.1 == 0) then j ([] : List S_extent_run) else j (h.2.1 ++ [(S_extent_run.mk h.2.2.1 h.2.2.2)])))))))

def m___extent_Map__may (F : Nat) (a : Int) (a1 : Int) (a2 : Int) : Option (Int) :=
  (m___extent_Map__is F a).bind (fun y3 => jn (fun (b : Bool) => (bif b then some 22 else jn (fun (c : Bool) => (bif c then some 27 else some 0)) (fun (d : Bool → Option (Int)) => (bif decide (a1 > 4096) then d true else grd (I64 (4096 - a1)) (d (decide (a2 > (4096 - a1)))))))) (fun (J7 : Bool → Option (Int)) => (bif decide (a1 < 0) then J7 true else J7 (decide (a2 < 0)))))

def m___extent_run__end (F : Nat) (a : Int) (b : List UInt8) : Option (Int) :=
  grd (I64 (a + (b.length : Int))) (some (a + (b.length : Int)))

def m___extent_Map__clear_1 (F : Nat) (a0 : Int) (a1 : List UInt8) (a : Int) : Option (Int × Int) :=
  grd ((decide ((a1.length : Int) > 0)) = true) (some (a0, a))

def m___extent_Map__clear_1_2 (F : Nat) (a0 : Int) (a1 : List UInt8) (a : Int) (b : List UInt8) : Option (Int × Int) :=
  grd ((decide ((a1.length : Int) > 0)) = true) (some (a, a0))

def m___extent_Map__clear (F : Nat) (j : List S_extent_run) (g : Int) (a1 : Int) (a2 : Int) : Option (List S_extent_run × Int) :=
  loopW (fun (G : List S_extent_run → Option (List S_extent_run × Int)) (I : List S_extent_run) => (lcase I (some (([] : List S_extent_run), g)) (fun (a : S_extent_run) (v : List S_extent_run) => jn (fun (J : Int × List S_extent_run × Int × List UInt8) => match J with | (q, s, p, k) => loopW (fun (l : List S_extent_run × List S_extent_run × Int × List UInt8 → Option (List S_extent_run × Int)) (K : List S_extent_run × List S_extent_run × Int × List UInt8) => match K with | (H, i, e, d) => (lcase H (some ((i ++ [(S_extent_run.mk e d)]), q)) (fun (c : S_extent_run) (r : List S_extent_run) => jn (fun (t : Bool) => (bif t then (m___extent_Map__clear_1_2 F c.at_ c.b e d).bind (fun w => l (r, (i ++ [(S_extent_run.mk w.1 d)]), w.2, c.b)) else jn (fun (L : List S_extent_run × Int × List UInt8) => match L with | (m, h, f) => (m___extent_run__end F c.at_ c.b).bind (fun M => (bif decide (M > a2) then grd (I64 (a2 - c.at_)) (grd (Bd (a2 - c.at_) c.b.length) ((m___extent_Map__clear_1_2 F a2 ((c.b.drop (Int.toNat (a2 - c.at_))).take (c.b.length - (Int.toNat (a2 - c.at_)))) h f).bind (fun x => l (r, (m ++ [(S_extent_run.mk x.1 f)]), x.2, ((c.b.drop (Int.toNat (a2 - c.at_))).take (c.b.length - (Int.toNat (a2 - c.at_)))))))) else l (r, m, h, f)))) (fun (y : List S_extent_run × Int × List UInt8 → Option (List S_extent_run × Int)) => (bif decide (c.at_ < a1) then grd (I64 (a1 - c.at_)) (grd (Bd (a1 - c.at_) c.b.length) ((m___extent_Map__clear_1_2 F c.at_ (c.b.take (Int.toNat (a1 - c.at_))) e d).bind (fun z => y ((i ++ [(S_extent_run.mk z.1 d)]), z.2, (c.b.take (Int.toNat (a1 - c.at_))))))) else y (i, e, d))))) (fun (A : Bool → Option (List S_extent_run × Int)) => (m___extent_run__end F c.at_ c.b).bind (fun N => (bif decide (N ≤ a1) then A true else A (decide (c.at_ ≥ a2)))))))) F (v, s, p, k)) (fun (n : Int × List S_extent_run × Int × List UInt8 → Option (List S_extent_run × Int)) => jn (fun (u : Bool) => (bif u then (m___extent_Map__clear_1 F a.at_ a.b g).bind (fun B => n (B.2, ([] : List S_extent_run), B.1, a.b)) else (bif decide (a.at_ < a1) then grd (I64 (a1 - a.at_)) (grd (Bd (a1 - a.at_) a.b.length) ((m___extent_Map__clear_1 F a.at_ (a.b.take (Int.toNat (a1 - a.at_))) g).bind (fun o => (m___extent_run__end F a.at_ a.b).bind (fun O => (bif decide (O > a2) then grd (I64 (a2 - a.at_)) (grd (Bd (a2 - a.at_) a.b.length) ((m___extent_Map__clear_1_2 F a2 ((a.b.drop (Int.toNat (a2 - a.at_))).take (a.b.length - (Int.toNat (a2 - a.at_)))) o.1 (a.b.take (Int.toNat (a1 - a.at_)))).bind (fun C => n (o.2, (([] : List S_extent_run) ++ [(S_extent_run.mk C.1 (a.b.take (Int.toNat (a1 - a.at_))))]), C.2, ((a.b.drop (Int.toNat (a2 - a.at_))).take (a.b.length - (Int.toNat (a2 - a.at_)))))))) else n (o.2, ([] : List S_extent_run), o.1, (a.b.take (Int.toNat (a1 - a.at_))))))))) else (m___extent_run__end F a.at_ a.b).bind (fun P => (bif decide (P > a2) then grd (I64 (a2 - a.at_)) (grd (Bd (a2 - a.at_) a.b.length) ((m___extent_Map__clear_1 F a2 ((a.b.drop (Int.toNat (a2 - a.at_))).take (a.b.length - (Int.toNat (a2 - a.at_)))) g).bind (fun D => n (D.2, ([] : List S_extent_run), D.1, ((a.b.drop (Int.toNat (a2 - a.at_))).take (a.b.length - (Int.toNat (a2 - a.at_)))))))) else G v))))) (fun (E : Bool → Option (List S_extent_run × Int)) => (m___extent_run__end F a.at_ a.b).bind (fun Q => (bif decide (Q ≤ a1) then E true else E (decide (a.at_ ≥ a2))))))))) F j

def m___extent_Map__Write (F : Nat) (f : List S_extent_run) (g : Int) (a1 : Int) (a2 : List UInt8) : Option (Int × List S_extent_run × Int) :=
  (m___extent_Map__may F g a1 (a2.length : Int)).bind (fun y3 => jn (fun (m : Bool) => (bif m then some (y3, f, g) else grd (I64 (a1 + (a2.length : Int))) ((m___extent_Map__clear F f g a1 (a1 + (a2.length : Int))).bind (fun d => grd (App a2.length 1) ((lcase d.1 (some (0, (([] : List S_extent_run) ++ [(S_extent_run.mk a1 a2)]), (if (a1 + (a2.length : Int)) > d.2 then (a1 + (a2.length : Int)) else d.2))) (fun (k : S_extent_run) (n : List S_extent_run) => (bif decide (k.at_ < a1) then loopW (fun (o : Int × List S_extent_run × List UInt8 × List S_extent_run → Option (Int × List S_extent_run × Int)) (p : Int × List S_extent_run × List UInt8 × List S_extent_run) => match p with | (c, e, a, q) => (lcase q ((m___extent_run__end F c a).bind (fun v => (bif v == a1 then grd (App ((a.take a.length).length + a2.length) 1) (grd (1 ≤ a2.length) (some (0, (e ++ [(S_extent_run.mk c ((a.take a.length) ++ a2))]), (if (a1 + (a2.length : Int)) > d.2 then (a1 + (a2.length : Int)) else d.2)))) else some (0, ((e ++ [(S_extent_run.mk c a)]) ++ [(S_extent_run.mk a1 a2)]), (if (a1 + (a2.length : Int)) > d.2 then (a1 + (a2.length : Int)) else d.2))))) (fun (h : S_extent_run) (j : List S_extent_run) => (bif decide (h.at_ < a1) then o (h.at_, (e ++ [(S_extent_run.mk c a)]), h.b, j) else (m___extent_run__end F a1 a2).bind (fun r => (bif h.at_ == r then grd (App (a2.length + h.b.length) 1) ((m___extent_run__end F c a).bind (fun s => (bif s == a1 then grd (App ((a.take a.length).length + (a2 ++ h.b).length) 1) (grd (1 ≤ (a2 ++ h.b).length) (some (0, ((e ++ [(S_extent_run.mk c ((a.take a.length) ++ (a2 ++ h.b)))]) ++ j), (if (a1 + (a2.length : Int)) > d.2 then (a1 + (a2.length : Int)) else d.2)))) else some (0, (((e ++ [(S_extent_run.mk c a)]) ++ [(S_extent_run.mk a1 (a2 ++ h.b))]) ++ j), (if (a1 + (a2.length : Int)) > d.2 then (a1 + (a2.length : Int)) else d.2))))) else (m___extent_run__end F c a).bind (fun t => (bif t == a1 then grd (App ((a.take a.length).length + a2.length) 1) (grd (1 ≤ a2.length) (some (0, (((e ++ [(S_extent_run.mk c ((a.take a.length) ++ a2))]) ++ [h]) ++ j), (if (a1 + (a2.length : Int)) > d.2 then (a1 + (a2.length : Int)) else d.2)))) else some (0, ((((e ++ [(S_extent_run.mk c a)]) ++ [(S_extent_run.mk a1 a2)]) ++ [h]) ++ j), (if (a1 + (a2.length : Int)) > d.2 then (a1 + (a2.length : Int)) else d.2)))))))))) F (k.at_, ([] : List S_extent_run), k.b, n) else (lcase ((([] : List S_extent_run) ++ [k]) ++ n) (some (0, (([] : List S_extent_run) ++ [(S_extent_run.mk a1 a2)]), (if (a1 + (a2.length : Int)) > d.2 then (a1 + (a2.length : Int)) else d.2))) (fun (i : S_extent_run) (l : List S_extent_run) => (m___extent_run__end F a1 a2).bind (fun u => (bif i.at_ == u then grd (App (a2.length + i.b.length) 1) (some (0, ((([] : List S_extent_run) ++ [(S_extent_run.mk a1 (a2 ++ i.b))]) ++ l), (if (a1 + (a2.length : Int)) > d.2 then (a1 + (a2.length : Int)) else d.2))) else some (0, (((([] : List S_extent_run) ++ [(S_extent_run.mk a1 a2)]) ++ [i]) ++ l), (if (a1 + (a2.length : Int)) > d.2 then (a1 + (a2.length : Int)) else d.2)))))))))))))) (fun (J7 : Bool → Option (Int × List S_extent_run × Int)) => (bif y3 != 0 then J7 true else J7 ((a2.length : Int) == 0))))

def m_tholeref01_Lend (F : Nat) (a0 : List UInt8) : Option (List UInt8) :=
  grd (Len (a0.length + 2)) (grd ((a0.length + 2) * 1 ≤ 281474976710656) (grd (Len (a0.length + 1)) (grd (0 < (List.replicate (a0.length + 2) (0 : UInt8)).length) (grd ((a0.length + 1) < ((List.replicate (a0.length + 2) (0 : UInt8)).set 0 (165 : UInt8)).length) (grd (Len a0.length) (loopL (fun (c : List UInt8 → Option (List UInt8)) (b : Nat) (d : UInt8) (a : List UInt8) => grd ((b + 1) < a.length) (c (a.set (b + 1) d))) (fun (b : Nat) (a : List UInt8) => grd ((a0.length + 1) ≤ a.length) (grd (1 ≤ (a0.length + 1)) (some a))) a0 0 (((List.replicate (a0.length + 2) (0 : UInt8)).set 0 (165 : UInt8)).set (a0.length + 1) (90 : UInt8))))))))

def m_tholeref01_Kept (F : Nat) (a0 : List UInt8) (a1 : List UInt8) : Option (Bool) :=
  grd (Len (a1.length + 2)) ((bif (a0.length : Int) == ((a1.length + 2 : Nat) : Int) then grd (0 < a0.length) ((bif (((a0.getD 0 0).toNat : Nat) : Int) == 165 then grd (Len (a1.length + 1)) (grd ((a1.length + 1) < a0.length) ((bif (((a0.getD (a1.length + 1) 0).toNat : Nat) : Int) == 90 then grd ((a1.length + 1) ≤ a0.length) (grd (1 ≤ (a1.length + 1)) (some ((ByteArray.mk ((a0.drop 1).take ((a1.length + 1) - 1)).toArray).toList == (ByteArray.mk a1.toArray).toList))) else some false))) else some false)) else some false))

def m_tholeref05_fits (F : Nat) (a0 : Int) (a1 : Int) : Option (Int) :=
  jn (fun (a : Bool) => (bif a then some 22 else jn (fun (b : Bool) => (bif b then some 27 else some 0)) (fun (c : Bool → Option (Int)) => (bif decide (a0 > 4096) then c true else grd (I64 (4096 - a0)) (c (decide (a1 > (4096 - a0)))))))) (fun (J4 : Bool → Option (Int)) => (bif decide (a0 < 0) then J4 true else J4 (decide (a1 < 0))))

def m___tholeref05_Map__grow (F : Nat) (b : List UInt8) (d : List Bool) (a1 : Int) : Option (List UInt8 × List Bool) :=
  loopW (fun (e : List UInt8 × List Bool → Option (List UInt8 × List Bool)) (f : List UInt8 × List Bool) => match f with | (a, c) => (bif decide ((a.length : Int) < a1) then grd (App (a.length + [(0 : UInt8)].length) 1) (grd (App (c.length + [false].length) 1) (e ((a ++ [(0 : UInt8)]), (c ++ [false])))) else some (a, c))) F (b, d)

def m___tholeref05_Map__Write (F : Nat) (b : List UInt8) (c : List Bool) (a1 : Int) (a2 : List UInt8) : Option (Int × List UInt8 × List Bool) :=
  (m_tholeref05_fits F a1 (a2.length : Int)).bind (fun y3 => (bif y3 != 0 then some (y3, b, c) else (bif (a2.length : Int) == 0 then some (0, b, c) else grd (I64 (a1 + (a2.length : Int))) ((m___tholeref05_Map__grow F b c (a1 + (a2.length : Int))).bind (fun f => grd (Len a2.length) (loopL (fun (g : List UInt8 × List Bool → Option (Int × List UInt8 × List Bool)) (a : Nat) (h : UInt8) (i : List UInt8 × List Bool) => match i with | (d, e) => grd (I64 (a1 + (a : Int))) (grd (Ix (a1 + (a : Int)) d.length) (grd (Ix (a1 + (a : Int)) e.length) (g ((d.set (Int.toNat (a1 + (a : Int))) h), (e.set (Int.toNat (a1 + (a : Int))) true)))))) (fun (a : Nat) (j : List UInt8 × List Bool) => match j with | (d, e) => some (0, d, e)) a2 0 (f.1, f.2)))))))

def m___extent_Map__Zero (F : Nat) (a : List S_extent_run) (b : Int) (a1 : Int) (a2 : Int) : Option (Int × List S_extent_run × Int) :=
  (m___extent_Map__may F b a1 a2).bind (fun y3 => jn (fun (c : Bool) => (bif c then some (y3, a, b) else grd (I64 (a1 + a2)) ((m___extent_Map__clear F a b a1 (a1 + a2)).bind (fun d => some (0, d.1, (if (a1 + a2) > d.2 then (a1 + a2) else d.2)))))) (fun (J7 : Bool → Option (Int × List S_extent_run × Int)) => (bif y3 != 0 then J7 true else J7 (a2 == 0))))

def m___tholeref05_Map__Zero (F : Nat) (a : List UInt8) (c : List Bool) (a1 : Int) (a2 : Int) : Option (Int × List UInt8 × List Bool) :=
  (m_tholeref05_fits F a1 a2).bind (fun y3 => (bif y3 != 0 then some (y3, a, c) else (bif a2 == 0 then some (0, a, c) else grd (I64 (a1 + a2)) ((m___tholeref05_Map__grow F a c (a1 + a2)).bind (fun f => loopW (fun (g : Int × List UInt8 × List Bool → Option (Int × List UInt8 × List Bool)) (h : Int × List UInt8 × List Bool) => match h with | (b, d, e) => (bif decide (b < (a1 + a2)) then grd (Ix b d.length) (grd (Ix b e.length) (grd (I64 (b + 1)) (g ((b + 1), (d.set (Int.toNat b) (0 : UInt8)), (e.set (Int.toNat b) false))))) else some (0, d, e))) F (a1, f.1, f.2))))))

def m___extent_Map__Truncate (F : Nat) (a : List S_extent_run) (b : Int) (a1 : Int) : Option (Int × List S_extent_run × Int) :=
  (m___extent_Map__may F b 0 a1).bind (fun y3 => (bif y3 != 0 then some (y3, a, b) else (m___extent_Map__clear F a b a1 4097).bind (fun y9 => some (0, y9.1, a1))))

def m___tholeref05_Map__Truncate (F : Nat) (a : List UInt8) (b : List Bool) (a1 : Int) : Option (Int × List UInt8 × List Bool) :=
  (m_tholeref05_fits F 0 a1).bind (fun y3 => (bif y3 != 0 then some (y3, a, b) else (m___tholeref05_Map__grow F a b a1).bind (fun y9 => grd (Bd a1 y9.1.length) (grd (Bd a1 y9.2.length) (some (0, (y9.1.take (Int.toNat a1)), (y9.2.take (Int.toNat a1))))))))

def m___extent_Map__Bytes (F : Nat) (d : List S_extent_run) (a : Int) : Option (List UInt8) :=
  (m___extent_Map__is F a).bind (fun y3 => grd (0 ≤ a) (grd ((Int.toNat a) * 1 ≤ 281474976710656) (grd (Len (Int.toNat a)) ((m___extent_Map__Extents F d a).bind (fun f => (m___extent_Map__Extents_1 F (fun (t : List UInt8) (x : Int × List UInt8) => (fun (e : List UInt8) => (fun (g : Int × List UInt8) => match g with | (b, c) => grd (Bd b e.length) (grd (1 ≤ c.length) (grd ((Int.toNat b) + c.length ≤ e.length) (some (true, (e.take (Int.toNat b) ++ (c ++ e.drop ((Int.toNat b) + c.length)))))))) x) t) (List.replicate (Int.toNat a) (0 : UInt8)) f).bind (fun h => some h))))))

def m___extent_Map__Read (F : Nat) (c : List S_extent_run) (b : Int) (a1 : Int) (a2 : Int) : Option (List UInt8 × Int) :=
  (m___extent_Map__is F b).bind (fun y3 => jn (fun (d : Bool) => (bif d then some (([] : List UInt8), 22) else (bif decide (a1 ≥ b) then some (([] : List UInt8), 0) else (m___extent_Map__Bytes F c b).bind (fun a => grd (Bd a1 a.length) (grd (Bd (if ((((a.drop (Int.toNat a1)).take (a.length - (Int.toNat a1))).length : Nat) : Int) < a2 then ((((a.drop (Int.toNat a1)).take (a.length - (Int.toNat a1))).length : Nat) : Int) else a2) (((a.drop (Int.toNat a1)).take (a.length - (Int.toNat a1))).length)) (some ((((a.drop (Int.toNat a1)).take (a.length - (Int.toNat a1))).take (Int.toNat (if ((((a.drop (Int.toNat a1)).take (a.length - (Int.toNat a1))).length : Nat) : Int) < a2 then ((((a.drop (Int.toNat a1)).take (a.length - (Int.toNat a1))).length : Nat) : Int) else a2))), 0))))))) (fun (J7 : Bool → Option (List UInt8 × Int)) => (bif decide (a1 < 0) then J7 true else J7 (decide (a2 < 0)))))

def m___tholeref05_Map__Read (F : Nat) (a : List UInt8) (e : List Bool) (a1 : Int) (a2 : Int) : Option (List UInt8 × Int) :=
  jn (fun (c : Bool) => (bif c then some (([] : List UInt8), 22) else (bif decide (a1 ≥ (a.length : Int)) then some (([] : List UInt8), 0) else grd (I64 ((a.length : Int) - a1)) (jn (fun (b : Int) => grd (I64 (a1 + b)) (grd (Bd (a1 + b) a.length) (grd (Bd a1 (Int.toNat (a1 + b))) (grd (App (([] : List UInt8).length + ((a.drop (Int.toNat a1)).take ((Int.toNat (a1 + b)) - (Int.toNat a1))).length) 1) (some ((([] : List UInt8) ++ ((a.drop (Int.toNat a1)).take ((Int.toNat (a1 + b)) - (Int.toNat a1)))), 0)))))) (fun (d : Int → Option (List UInt8 × Int)) => (bif decide (a2 > ((a.length : Int) - a1)) then d ((a.length : Int) - a1) else d a2)))))) (fun (J4 : Bool → Option (List UInt8 × Int)) => (bif decide (a1 < 0) then J4 true else J4 (decide (a2 < 0))))

def m_tholeref01_Same (F : Nat) (a0 : List UInt8) (a1 : List UInt8) : Option (Bool) :=
  some ((ByteArray.mk a0.toArray).toList == (ByteArray.mk a1.toArray).toList)

def m_tholelaw05_act (F : Nat) (a : List S_extent_run) (d : Int) (c : List UInt8) (e : List Bool) (f : Int) (g : Int) (k : Int) (b : List UInt8) : Option (Bool × List S_extent_run × Int × List UInt8 × List Bool) :=
  (bif f == 0 then (m_tholeref01_Lend F b).bind (fun y6 => grd ((b.length + 1) ≤ y6.length) (grd (1 ≤ (b.length + 1)) ((m___extent_Map__Write F a d g ((y6.drop 1).take ((b.length + 1) - 1))).bind (fun l => (m_tholeref01_Kept F y6 b).bind (fun y => grd (((((y6.drop 1).take ((b.length + 1) - 1)).length : Nat) : Int) ≤ 9223372036854775807) (loopC (fun (w : List UInt8 → Option (Bool × List S_extent_run × Int × List UInt8 × List Bool)) (i : Nat) (j : List UInt8) => grd (i < j.length) (w (j.set i (7 : UInt8)))) (fun (i : Nat) (j : List UInt8) => (bif y then (m___tholeref05_Map__Write F c e g b).bind (fun p => some ((l.1 == p.1), l.2.1, l.2.2, p.2.1, p.2.2)) else some (false, l.2.1, l.2.2, c, e))) (Int.toNat (((((y6.drop 1).take ((b.length + 1) - 1)).length : Nat) : Int) - (0 : Int))) 0 ((y6.drop 1).take ((b.length + 1) - 1)))))))) else (bif f == 1 then (m___extent_Map__Zero F a d g k).bind (fun q => (m___tholeref05_Map__Zero F c e g k).bind (fun r => some ((q.1 == r.1), q.2.1, q.2.2, r.2.1, r.2.2))) else (bif f == 2 then (m___extent_Map__Truncate F a d g).bind (fun s => (m___tholeref05_Map__Truncate F c e g).bind (fun t => some ((s.1 == t.1), s.2.1, s.2.2, t.2.1, t.2.2))) else (bif f == 3 then (m___extent_Map__Read F a d g k).bind (fun m => (m___tholeref05_Map__Read F c e g k).bind (fun x => jn (fun (u : Bool) => grd ((m.1.length : Int) ≤ 9223372036854775807) (loopC (fun (v : List UInt8 → Option (Bool × List S_extent_run × Int × List UInt8 × List Bool)) (h : Nat) (n : List UInt8) => grd (h < n.length) (v (n.set h (9 : UInt8)))) (fun (h : Nat) (n : List UInt8) => some (u, a, d, c, e)) (Int.toNat ((m.1.length : Int) - (0 : Int))) 0 m.1)) (fun (o : Bool → Option (Bool × List S_extent_run × Int × List UInt8 × List Bool)) => (m_tholeref01_Same F m.1 x.1).bind (fun z => (bif z then o (m.2 == x.2) else o false))))) else some (true, a, d, c, e)))))

def m___extent_Map__Size (F : Nat) (a : Int) : Option (Int) :=
  (m___extent_Map__is F a).bind (fun y3 => some a)

def m___tholeref05_Map__Copy_2 (F : Nat) (a : List UInt8) (b : List Bool) : Option (List UInt8 × List Bool) :=
  grd (App (([] : List UInt8).length + a.length) 1) (grd (App (([] : List Bool).length + b.length) 1) (some ((([] : List UInt8) ++ a), (([] : List Bool) ++ b))))

def m___tholeref05_Map__Runs (F : Nat) (c : List UInt8) (d : List Bool) : Option (List S_tholeref05_Run) :=
  grd (Len c.length) (loopL (fun (e : List S_tholeref05_Run → Option (List S_tholeref05_Run)) (b : Nat) (f : UInt8) (a : List S_tholeref05_Run) => grd (b < d.length) ((bif !(d.getD b false) then e a else grd (I64 ((a.length : Int) - 1)) ((bif decide (((a.length : Int) - 1) ≥ 0) then grd ((Int.toNat ((a.length : Int) - 1)) < a.length) (grd (Ix ((a.length : Int) - 1) a.length) (grd (I64 (((a.getD (Int.toNat ((a.length : Int) - 1)) dS_tholeref05_Run).At) + ((((a.getD (Int.toNat ((a.length : Int) - 1)) dS_tholeref05_Run).B).length : Nat) : Int))) ((bif (((a.getD (Int.toNat ((a.length : Int) - 1)) dS_tholeref05_Run).At) + ((((a.getD (Int.toNat ((a.length : Int) - 1)) dS_tholeref05_Run).B).length : Nat) : Int)) == (b : Int) then grd (App (((a.getD (Int.toNat ((a.length : Int) - 1)) dS_tholeref05_Run).B).length + [f].length) 1) (e (a.set (Int.toNat ((a.length : Int) - 1)) (S_tholeref05_Run.mk ((a.getD (Int.toNat ((a.length : Int) - 1)) dS_tholeref05_Run).At) (((a.getD (Int.toNat ((a.length : Int) - 1)) dS_tholeref05_Run).B) ++ [f])))) else grd (App (a.length + [(S_tholeref05_Run.mk (b : Int) [f])].length) 32) (e (a ++ [(S_tholeref05_Run.mk (b : Int) [f])])))))) else grd (App (a.length + [(S_tholeref05_Run.mk (b : Int) [f])].length) 32) (e (a ++ [(S_tholeref05_Run.mk (b : Int) [f])]))))))) (fun (b : Nat) (a : List S_tholeref05_Run) => some a) c 0 ([] : List S_tholeref05_Run))

def m_tholelaw05_runs (F : Nat) (l : List S_extent_run) (o : Int) (p : List UInt8) (r : List Bool) : Option (Bool) :=
  (m___extent_Map__Extents F l o).bind (fun y3 => (m___tholeref05_Map__Runs F p r).bind (fun d => (m___extent_Map__Extents_1 F (fun (t : Nat × Nat) (x : Int × List UInt8) => grd (t.1 = 0) ((fun (a : Nat) => (fun (N : Int × List UInt8) => match N with | (y, f) => grd (a < d.length) (jn (fun (z : Bool) => (bif z then some (false, (1, a)) else grd ((f.length : Int) ≤ 9223372036854775807) (loopC (fun (I : List UInt8 → Option (Bool × (Nat × Nat))) (m : Nat) (n : List UInt8) => grd (m < n.length) (I (n.set m (5 : UInt8)))) (fun (m : Nat) (n : List UInt8) => grd (Len (a + 1)) ((bif ((a + 1 : Nat) : Int) == 1 then some (false, (2, (a + 1))) else some (true, (0, (a + 1)))))) (Int.toNat ((f.length : Int) - (0 : Int))) 0 f))) (fun (A : Bool → Option (Bool × (Nat × Nat))) => (bif decide ((a : Int) ≥ (d.length : Int)) then A true else (bif y != ((d.getD a dS_tholeref05_Run).At) then A true else (m_tholeref01_Same F f ((d.getD a dS_tholeref05_Run).B)).bind (fun O => A (!O))))))) x) t.2)) (0, 0) y3).bind (fun J => (bif (J.1 == 0) then (m___extent_Map__Extents_1 F (fun (t : Nat × Nat) (x : Int × List UInt8) => grd (t.1 = 0) ((fun (c : Nat) => (fun (K : Int × List UInt8) => match K with | (C, g) => grd (c < d.length) (jn (fun (D : Bool) => (bif D then some (false, (1, c)) else grd ((g.length : Int) ≤ 9223372036854775807) (loopC (fun (E : List UInt8 → Option (Bool × (Nat × Nat))) (h : Nat) (i : List UInt8) => grd (h < i.length) (E (i.set h (5 : UInt8)))) (fun (h : Nat) (i : List UInt8) => grd (Len (c + 1)) (some (true, (0, (c + 1))))) (Int.toNat ((g.length : Int) - (0 : Int))) 0 g))) (fun (G : Bool → Option (Bool × (Nat × Nat))) => (bif decide ((c : Int) ≥ (d.length : Int)) then G true else (bif C != ((d.getD c dS_tholeref05_Run).At) then G true else (m_tholeref01_Same F g ((d.getD c dS_tholeref05_Run).B)).bind (fun P => G (!P))))))) x) t.2)) (0, 0) y3).bind (fun v => (bif (v.1 == 0) then (bif (v.2 : Int) != (d.length : Int) then some false else some true) else some false)) else (bif (J.1 == 1) then some false else (m___extent_Map__Extents_1 F (fun (t : Nat × Nat) (x : Int × List UInt8) => grd (t.1 = 0) ((fun (b : Nat) => (fun (L : Int × List UInt8) => match L with | (s, e) => grd (b < d.length) (jn (fun (u : Bool) => (bif u then some (false, (1, b)) else grd ((e.length : Int) ≤ 9223372036854775807) (loopC (fun (H : List UInt8 → Option (Bool × (Nat × Nat))) (j : Nat) (k : List UInt8) => grd (j < k.length) (H (k.set j (5 : UInt8)))) (fun (j : Nat) (k : List UInt8) => grd (Len (b + 1)) (some (true, (0, (b + 1))))) (Int.toNat ((e.length : Int) - (0 : Int))) 0 e))) (fun (q : Bool → Option (Bool × (Nat × Nat))) => (bif decide ((b : Int) ≥ (d.length : Int)) then q true else (bif s != ((d.getD b dS_tholeref05_Run).At) then q true else (m_tholeref01_Same F e ((d.getD b dS_tholeref05_Run).B)).bind (fun M => q (!M))))))) x) t.2)) (0, 0) y3).bind (fun w => (bif (w.1 == 0) then (bif (w.2 : Int) != (d.length : Int) then some false else some true) else some false)))))))

def m_tholelaw05_lives (F : Nat) : Option (Bool) :=
  (m_extent_New F).bind (fun y3 => (m___extent_Map__Write F ([] : List S_extent_run) y3 2 [(97 : UInt8), (98 : UInt8)]).bind (fun y9 => (m___extent_Map__Write F y9.2.1 y9.2.2 4 [(99 : UInt8), (100 : UInt8)]).bind (fun b => (m___extent_Map__Zero F b.2.1 b.2.2 3 2).bind (fun a => (bif y9.1 == 0 then (bif b.1 == 0 then (bif a.1 == 0 then (m___extent_Map__Bytes F a.2.1 a.2.2).bind (fun c => (bif (ByteArray.mk c.toArray).toList == (ByteArray.mk #[0, 0, 97, 0, 0, 100]).toList then (m___extent_Map__Write F a.2.1 a.2.2 4096 [(120 : UInt8)]).bind (fun d => some (d.1 == 27)) else some false)) else some false) else some false) else some false)))))

def m_tholelaw05_ExtentActs (F : Nat) (a0 : List S_tholelaw05_Act) : Option (Bool) :=
  (m_extent_New F).bind (fun y3 => grd (Len a0.length) (loopL (fun (s : Int × List S_extent_run × List UInt8 × List Bool → Option (Bool)) (t : Nat) (e : S_tholelaw05_Act) (v : Int × List S_extent_run × List UInt8 × List Bool) => match v with | (d, f, b, c) => jn (fun (w : Int × List S_extent_run × List UInt8 × List Bool) => match w with | (g, i, j, k) => jn (fun (x : Bool × Int × List S_extent_run × List UInt8 × List Bool) => match x with | (u, h, l, m, n) => (bif u then some false else s (h, l, m, n))) (fun (o : Bool × Int × List S_extent_run × List UInt8 × List Bool → Option (Bool)) => (m_tholelaw05_act F i g j k e.Kind e.A e.B e.Data).bind (fun a => (bif !a.1 then o (true, a.2.2.1, a.2.1, a.2.2.2.1, a.2.2.2.2) else (m___extent_Map__Size F a.2.2.1).bind (fun y => (bif y != (a.2.2.2.1.length : Int) then o (true, a.2.2.1, a.2.1, a.2.2.2.1, a.2.2.2.2) else (m___extent_Map__Bytes F a.2.1 a.2.2.1).bind (fun z => (m_tholeref01_Same F z a.2.2.2.1).bind (fun C => o ((!C), a.2.2.1, a.2.1, a.2.2.2.1, a.2.2.2.2))))))))) (fun (p : Int × List S_extent_run × List UInt8 × List Bool → Option (Bool)) => (bif e.Kind == 4 then (m___extent_Map__Copy F f d).bind (fun q => (m___extent_Map__Write F f d 0 [(122 : UInt8), (122 : UInt8)]).bind (fun D => (bif D.1 != 0 then some false else (m___tholeref05_Map__Copy_2 F b c).bind (fun r => p (q.2, q.1, r.1, r.2))))) else p (d, f, b, c)))) (fun (t : Nat) (E : Int × List S_extent_run × List UInt8 × List Bool) => match E with | (d, f, b, c) => (m_tholelaw05_runs F f d b c).bind (fun G => (bif G then (m_tholelaw05_lives F).bind (fun H => some H) else some false))) a0 0 (y3, ([] : List S_extent_run), ([] : List UInt8), ([] : List Bool))))

def m_tholelaw05_ExtentCopies (F : Nat) (a0 : List S_tholelaw05_Act) (a1 : List S_tholelaw05_Act) : Option (Bool) :=
  (m_extent_New F).bind (fun y3 => grd (Len a0.length) (loopL (fun (s : Int × List S_extent_run × List UInt8 × List Bool → Option (Bool)) (o : Nat) (l : S_tholelaw05_Act) (t : Int × List S_extent_run × List UInt8 × List Bool) => match t with | (a, h, c, d) => (m_tholelaw05_act F h a c d l.Kind l.A l.B l.Data).bind (fun m => s (m.2.2.1, m.2.1, m.2.2.2.1, m.2.2.2.2))) (fun (o : Nat) (u : Int × List S_extent_run × List UInt8 × List Bool) => match u with | (a, h, c, d) => (m___extent_Map__Bytes F h a).bind (fun v => (m___extent_Map__Copy F h a).bind (fun k => jn (fun (p : Bool) => (bif p then some false else (m___tholeref05_Map__Copy_2 F c d).bind (fun n => grd (Len a1.length) (loopL (fun (q : Int × List S_extent_run × List UInt8 × List Bool → Option (Bool)) (r : Nat) (i : S_tholelaw05_Act) (w : Int × List S_extent_run × List UInt8 × List Bool) => match w with | (b, e, f, g) => (m_tholelaw05_act F e b f g i.Kind i.A i.B i.Data).bind (fun j => q (j.2.2.1, j.2.1, j.2.2.2.1, j.2.2.2.2))) (fun (r : Nat) (x : Int × List S_extent_run × List UInt8 × List Bool) => match x with | (b, e, f, g) => (m___extent_Map__Bytes F h a).bind (fun y => (m_tholeref01_Same F y v).bind (fun z => (bif z then (m_tholelaw05_runs F h a c d).bind (fun C => (bif C then (m_tholelaw05_runs F e b f g).bind (fun D => (bif D then (m_tholelaw05_lives F).bind (fun E => some E) else some false)) else some false)) else some false)))) a1 0 (k.2, k.1, n.1, n.2))))) (fun (G : Bool → Option (Bool)) => (m___extent_Map__Bytes F k.1 k.2).bind (fun H => (m_tholeref01_Same F H v).bind (fun I => (bif !I then G true else (m___extent_Map__Size F k.2).bind (fun J => (m___extent_Map__Size F a).bind (fun K => G (J != K)))))))))) a0 0 (y3, ([] : List S_extent_run), ([] : List UInt8), ([] : List Bool))))

end Go.Proofs.Ytmdfkklldbfocaa
