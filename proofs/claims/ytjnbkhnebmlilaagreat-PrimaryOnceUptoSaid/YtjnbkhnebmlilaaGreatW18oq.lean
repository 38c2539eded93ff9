/-
 CHAPTER 18o: the functions do what their models say (17).
-/
import Derived.Test.YtjnbkhnebmlilaaGreatE18o
import Derived.Test.YtjnbkhnebmlilaaGreatW18oe
import Derived.Test.YtjnbkhnebmlilaaGreatW18ok
import Derived.Test.YtjnbkhnebmlilaaGreatW18op
set_option linter.unusedVariables false
set_option linter.unusedSimpArgs false
set_option maxRecDepth 100000
set_option maxHeartbeats 8000000
namespace Go.Proofs.YtjnbkhnebmlilaaGreat
open Go Go.RowKit Sx

theorem w___primary_Machine__acked_3 (F a3 : Nat) (m : Option Addr) (ay : Nat) (a5 a6 a7 : Int) (n : Option Addr) (az : Nat) (a1 : List S_api_Entry) (d : Option Addr) (B : Nat) (u : List S_api_Last) (e : Option Addr) (C : Nat) (z : List S_api_Item) (f : Option Addr) (D k : Nat) (ap p q aq ar au av aw ax r l E G H I J K L M N O P Q : Int) (R : Bool) (T : Int) (U : ByteArray) (V W : Int) (Y : ByteArray) (Z aa ab : Int) (o : ByteArray) (c : Option Addr) (s : Nat) (j : List UInt8) (ac ad ae af ag : Int) (ah : Bool) (ai : Int) (aj : ByteArray) (ak al : Int) (am : ByteArray) (an ao A : Int) (a : Option Addr) (b : Nat) (a2 bf bg ca cb cc b9 cd ce cf be bh bi bj bk bl bm bn bo bp bq br bs : Int) (bt : Bool) (bu : Int) (bv : ByteArray) (bw bx : Int) (bz : ByteArray) (b1 b2 b3 : Int) (b4 : ByteArray) (b5 b6 b7 : Int) (b8 : 1 ≤ b) {y : R___primary_Machine__acked_3} (hm : m___primary_Machine__acked_3 F a5 a6 a7 a1 u z ap p q aq ar au av aw ax r l E G H I J K L M N O P Q R T U V W Y Z aa ab o j ac ad ae af ag ah ai aj ak al am an ao A a2 bf bg ca cb cc b9 cd ce cf be bh bi bj bk bl bm bn bo bp bq br bs bt bu bv bw bx bz b1 b2 b3 b4 b5 b6 b7 = some y) : CallG Tryz.prog 43 #[pA a3 0,.agg ((kc97 bf bg ca cb cc b9 cd ce cf be bh bi bj bk bl bm bn bo bp bq br bs bt bu bv bw bx bz b1 b2 b3 b4 b5 b6 b7)).toArray] (X := (Option Addr × Nat) × (Option Addr × Nat × Option Addr × Nat) × Unit) (fun (x : (Option Addr × Nat) × (Option Addr × Nat × Option Addr × Nat) × Unit) => bif y.t == 0 then (fun ⟨⟨x0,x1⟩,_,_⟩ => .agg ((kc30 x0 x1)).toArray : (Option Addr × Nat) × (Option Addr × Nat × Option Addr × Nat) × Unit → Value) x else bif y.t == 1 then (fun ⟨_,⟨x0,x1,x2,x3⟩,_⟩ => .agg ((kc30 x0 x1)).toArray : (Option Addr × Nat) × (Option Addr × Nat × Option Addr × Nat) × Unit → Value) x else (fun ⟨_,_,_⟩ => .agg ((kc103 o)).toArray : (Option Addr × Nat) × (Option Addr × Nat × Option Addr × Nat) × Unit → Value) x) [.osl a b 3 1 [[vI 1]],.cells k 104 (kc67 ap p q aq ar au av aw ax r l E G H I J K L M N O P Q R T U V W Y Z aa ab o c j.length s ac ad ae af ag ah ai aj ak al am an ao A a b),.cells a3 80 (kc39 m ay a5 a6 a7 n a1.length az d u.length B e z.length C f D k a2)] [.rd m 1 [[vI 1]],r31 n a1,r94 d u,r91 e z,.rd f 46 [],r5 c j] (fun (x : (Option Addr × Nat) × (Option Addr × Nat × Option Addr × Nat) × Unit) => bif y.t == 0 then (fun ⟨⟨x0,x1⟩,_,_⟩ => [.osl x0 x1 65 46 [(kc34 p q r l y.a0)],.osl a b 3 1 [],.cells k 104 (kc98 ap p q aq ar au av aw ax r l E G H I J K L M N O P Q R T U V W Y Z aa ab o c j.length s ac ad ae af ag ah ai aj ak al am an ao A a b),.cells a3 80 (kc11 m ay a5 a6 a7 n a1.length az d u.length B e z.length C f D a2)] : (Option Addr × Nat) × (Option Addr × Nat × Option Addr × Nat) × Unit → List Ent) x else bif y.t == 1 then (fun ⟨_,⟨x0,x1,x2,x3⟩,_⟩ => [o9 x2 x3 y.b0,.osl x0 x1 65 46 [(kc111 p q r l x2 y.b0.length x3)],.osl a b 3 1 [],.cells k 104 (kc98 ap p q aq ar au av aw ax r l E G H I J K L M N O P Q R T U V W Y Z aa ab o c j.length s ac ad ae af ag ah ai aj ak al am an ao A a b),.cells a3 80 (kc11 m ay a5 a6 a7 n a1.length az d u.length B e z.length C f D a2)] : (Option Addr × Nat) × (Option Addr × Nat × Option Addr × Nat) × Unit → List Ent) x else (fun ⟨_,_,_⟩ => [.osl a b 3 1 [],.cells k 104 (kc102 ap p q aq ar au av aw ax r l E G H I J K L M N O P Q R T U V W Y Z aa ab o c j.length s ac ad ae af ag ah ai aj ak al am an ao A a b),.cells a3 80 (kc39 m ay a5 a6 a7 n a1.length az d u.length B e z.length C f D k a2)] : (Option Addr × Nat) × (Option Addr × Nat × Option Addr × Nat) × Unit → List Ent) x) := by
 rw [m___primary_Machine__acked_3] at hm
 refine GS.st Tryz.func43 Tryz.ntmps43 (fun w => ?_)
 refine GS.seq ?_
 refine GS.dg [1] (fun a4 => [(3,pA ((a4 0).x) 0),(4,pA ((a4 1).x) 0)]) [] (fun a4 => [(10,.cells ((a4 0).x) 65 (kc97 bf bg ca cb cc b9 cd ce cf be bh bi bj bk bl bm bn bo bp bq br bs bt bu bv bw bx bz b1 b2 b3 b4 b5 b6 b7)),(11,.cells ((a4 1).x) 68 (kc13))]) [(0,hN 10),(1,hN 11)] (fun a4 => []) (fun a4 => ?_)
 refine GS.seq ?_
 refine GS.eg [] [(5,pA k 0)] [] [] [(3,hL 3 0 0)] [qE a3] ?_
 refine GS.seq ?_
 refine GS.seq ?_
 refine grd_elim hm (fun g4 hm => ?_)
 refine GS.yg [] [(34,.bool (bf != 2))] [] [] [(6,hL 2 0 0),(10,hL 10 0 0),(14,hL 3 0 0),(17,hP (.bool false)),(20,hL 10 0 0)] [qE k,qE ((a4 0).x),qE a3,⟨(bool_eq (g4) : ((.bool (b9 != 3)) : Value) = .bool false)⟩,qE ((a4 0).x)] ?_
 refine grd_elim hm (fun g5 hm => ?_)
 refine GS.cd (bf != 2) (fun h6 => absb h6 (g5)) (fun _ => ?_)
 refine GS.skip ?_
 refine GS.seq ?_
 refine bnd_elim hm (fun y8 e9 hm => ?_)
 refine GS.yg [34] [(6,vI 0)] [] [] [(3,hL 2 0 0),(6,hL 10 0 0),(7,hC [1] (vI 0))] [qE k,qE ((a4 0).x),⟨(w_slices_Index___int_int__2 F a b bg e9).ok (es := [some (.osl a b 3 1 [[vI 1]])]) ⟨(.inl ⟨_,mm0,Cov.osl_rd⟩),trivial⟩⟩] ?_
 refine GS.seq ?_
 refine GS.yg [3] [(7,.bool (be == A))] [10] [] [(1,hL 10 0 0),(22,hL 10 0 0),(28,hL 2 0 0),(33,hL 10 0 0),(37,hL 2 0 0)] [qE ((a4 0).x),qE ((a4 0).x),qE k,qE ((a4 0).x),qE k] ?_
 refine GS.seq ?_
 refine GS.seq ?_
 refine GS.ez [7] [(90,.bool (!(be == A)))] [] ?_
 refine grd_elim hm (fun cj hm => ?_)
 refine GS.cd (!(be == A)) (fun ck => absb ck (cj)) (fun _ => ?_)
 refine GS.skip ?_
 refine GS.seq ?_
 refine bnd_elim hm (fun cp cl hm => ?_)
 refine GS.open_ ?_
 refine GR.eu 8 [5,6,90] [(92,pA k 0),(96,.slice a 1 b),(97,vI 0),(99,vI 1)] [] [] [(4,hL 2 0 0)] [qE k] ?_
 refine GR.cg (w_slices_Delete___int_int_ F a b b8 cl) [1] [1] [96,97,99] [] trivial ?_
 rintro _
 refine GR.eu 3 [92,100] [] [] [(2,.cells k 104 (kc98 ap p q aq ar au av aw ax r l E G H I J K L M N O P Q R T U V W Y Z aa ab o c j.length s ac ad ae af ag ah ai aj ak al am an ao A a b))] [(11,hS 2)] [qE k,qE true] ?_
 refine GR.dm ?_
 refine GS.seq ?_
 refine bnd_elim hm (fun bd ch hm => ?_)
 refine br_elim hm (fun cg hm => ?_) (fun cg hm => ?_)
 ·skip
  refine GS.open_ ?_
  refine GR.eu 3 [0] [(103,pA a3 0),(104,pA a3 0),(105,.agg ((kc13)).toArray)] [] [] [] [] ?_
  refine GR.cg (CallG.fT cg (w___primary_Machine__done_6 F a3 m ay a5 a6 a7 n az a1 d B u e C z f D k ap p q aq ar au av aw ax r l E G H I J K L M N O P Q R T U V W Y Z aa ab o c s j ac ad ae af ag ah ai aj ak al am an ao A a b a2 ch)) [2,3] [12,2,3] [104,105] [] ⟨rR 4,rR 5,rR 6,rR 7,rR 8,rR 9,rV 1 (.osl a b 3 1 []) Cov.osl_rd,trivial⟩ ?_
  rintro ⟨⟨a9,a8⟩,_,_⟩
  refine bnd_elim hm (fun cq cm hm => ?_)
  refine GR.eu 2 [103,106] [] [] [(11,.cells ((a4 1).x) 68 (kc30 a9 a8))] [(4,hC [3,4,5,6,7,8,12] (.agg ((kc30 a9 a8)).toArray)),(5,hS 11)] [⟨(w___primary_Machine__begin_3 F a3 m ay a5 a6 a7 n az a1 d B u e C z f D a2 a9 a8 p q r l bd.a0 cm).ok (es := [some (.cells a3 80 (kc11 m ay a5 a6 a7 n a1.length az d u.length B e z.length C f D a2)),some (.rd m 1 [[vI 1]]),some (r31 n a1),some (r94 d u),some (r91 e z),some (.rd f 46 []),some (.osl a9 a8 65 46 [(kc34 p q r l bd.a0)])]) ⟨(.inl ⟨_,mm1,Cov.refl _⟩),(.inl ⟨_,mm2,Cov.refl _⟩),(.inl ⟨_,mm3,Cov.refl _⟩),(.inl ⟨_,mm4,Cov.refl _⟩),(.inl ⟨_,mm5,Cov.refl _⟩),(.inl ⟨_,mm0,Cov.cells_rd⟩),(.inl ⟨_,mm6,Cov.osl_rd⟩),trivial⟩⟩,qE ((a4 1).x),qE true] ?_
  refine GR.dm ?_
  have hy := Option.some.inj hm
  subst hy
  exact GS.rv [11] [qE ((a4 1).x)] Tryz.func43 ⟨⟨a9,a8⟩,⟨none,0,none,0⟩,()⟩ [12,1,2,3]
 ·skip
  refine br_elim hm (fun ci hm => ?_) (fun ci hm => ?_)
  ·skip
   refine GS.open_ ?_
   refine GR.eu 3 [0] [(103,pA a3 0),(104,pA a3 0),(105,.agg ((kc13)).toArray)] [] [] [] [] ?_
   refine GR.cg (CallG.fT ci (CallG.fF cg (w___primary_Machine__done_6 F a3 m ay a5 a6 a7 n az a1 d B u e C z f D k ap p q aq ar au av aw ax r l E G H I J K L M N O P Q R T U V W Y Z aa ab o c s j ac ad ae af ag ah ai aj ak al am an ao A a b a2 ch))) [2,3] [13,12,2,3] [104,105] [] ⟨rR 4,rR 5,rR 6,rR 7,rR 8,rR 9,rV 1 (.osl a b 3 1 []) Cov.osl_rd,trivial⟩ ?_
   rintro ⟨_,⟨a8,ba,bb,bc⟩,_⟩
   refine bnd_elim hm (fun cr cn hm => ?_)
   refine GR.eu 2 [103,106] [] [] [(11,.cells ((a4 1).x) 68 (kc30 a8 ba))] [(4,hC [3,4,5,6,7,8,12,13] (.agg ((kc30 a8 ba)).toArray)),(5,hS 11)] [⟨(w___primary_Machine__begin_4 F a3 m ay a5 a6 a7 n az a1 d B u e C z f D a2 a8 ba p q r l bb bc bd.b0 cn).ok (es := [some (.cells a3 80 (kc11 m ay a5 a6 a7 n a1.length az d u.length B e z.length C f D a2)),some (.rd m 1 [[vI 1]]),some (r31 n a1),some (r94 d u),some (r91 e z),some (.rd f 46 []),some (.osl a8 ba 65 46 [(kc111 p q r l bb bd.b0.length bc)]),some (o9 bb bc bd.b0)]) ⟨(.inl ⟨_,mm1,Cov.refl _⟩),(.inl ⟨_,mm2,Cov.refl _⟩),(.inl ⟨_,mm3,Cov.refl _⟩),(.inl ⟨_,mm4,Cov.refl _⟩),(.inl ⟨_,mm5,Cov.refl _⟩),(.inl ⟨_,mm0,Cov.cells_rd⟩),(.inl ⟨_,mm7,Cov.osl_rd⟩),(.inl ⟨_,mm6,Cov.osl_rd⟩),trivial⟩⟩,qE ((a4 1).x),qE true] ?_
   refine GR.dm ?_
   have hy := Option.some.inj hm
   subst hy
   exact GS.rv [11] [qE ((a4 1).x)] Tryz.func43 ⟨⟨none,0⟩,⟨a8,ba,bb,bc⟩,()⟩ [13,12,1,2,3]
  ·skip
   refine GS.open_ ?_
   refine GR.eu 3 [0] [(103,pA a3 0),(104,pA a3 0),(105,.agg ((kc13)).toArray)] [] [] [] [] ?_
   refine GR.cg (CallG.fF ci (CallG.fF cg (w___primary_Machine__done_6 F a3 m ay a5 a6 a7 n az a1 d B u e C z f D k ap p q aq ar au av aw ax r l E G H I J K L M N O P Q R T U V W Y Z aa ab o c s j ac ad ae af ag ah ai aj ak al am an ao A a b a2 ch))) [2,3] [2,3] [104,105] [] ⟨rR 4,rR 5,rR 6,rR 7,rR 8,rR 9,rV 1 (.osl a b 3 1 []) Cov.osl_rd,trivial⟩ ?_
   rintro ⟨_,_,_⟩
   refine bnd_elim hm (fun cs co hm => ?_)
   refine GR.eu 2 [103,106] [] [] [(11,.cells ((a4 1).x) 68 (kc103 o))] [(4,hC [1,2,3,4,5,6,7,8,9] (.agg ((kc103 o)).toArray)),(5,hS 11)] [⟨(w___primary_Machine__begin_5 F a3 m ay a5 a6 a7 n az a1 d B u e C z f D k ap p q aq ar au av aw ax r l E G H I J K L M N O P Q R T U V W Y Z aa ab o c s j ac ad ae af ag ah ai aj ak al am an ao A a b a2 co).ok (es := [some (.osl a b 3 1 []),some (.cells k 104 (kc102 ap p q aq ar au av aw ax r l E G H I J K L M N O P Q R T U V W Y Z aa ab o c j.length s ac ad ae af ag ah ai aj ak al am an ao A a b)),some (.cells a3 80 (kc39 m ay a5 a6 a7 n a1.length az d u.length B e z.length C f D k a2)),some (.rd m 1 [[vI 1]]),some (r31 n a1),some (r94 d u),some (r91 e z),some (.rd f 46 []),some (r5 c j)]) ⟨(.inl ⟨_,mm3,Cov.refl _⟩),(.inl ⟨_,mm4,Cov.refl _⟩),(.inl ⟨_,mm5,Cov.refl _⟩),(.inl ⟨_,mm6,Cov.refl _⟩),(.inl ⟨_,mm7,Cov.refl _⟩),(.inl ⟨_,mm8,Cov.refl _⟩),(.inl ⟨_,mm0,Cov.osl_rd⟩),(.inl ⟨_,mm1,Cov.cells_rd⟩),(.inl ⟨_,mm2,Cov.cells_rd⟩),trivial⟩⟩,qE ((a4 1).x),qE true] ?_
   refine GR.dm ?_
   have hy := Option.some.inj hm
   subst hy
   exact GS.rv [11] [qE ((a4 1).x)] Tryz.func43 ⟨⟨none,0⟩,⟨none,0,none,0⟩,()⟩ [1,2,3]

theorem w___primary_Machine__Step_4 (F a4 : Nat) (n : Option Addr) (ay : Nat) (a5 a6 a7 : Int) (o : Option Addr) (az : Nat) (a1 : List S_api_Entry) (e : Option Addr) (av : Nat) (ak : List S_api_Last) (f : Option Addr) (aw : Nat) (al : List S_api_Item) (j : Option Addr) (ax s : Nat) (am p q an ao ap aq ar au r k u z A B C D E G H I J K : Int) (L : Bool) (M : Int) (N : ByteArray) (O P : Int) (Q : ByteArray) (R T U : Int) (m : ByteArray) (c : Option Addr) (l : Nat) (d : List UInt8) (V W Y Z aa : Int) (ab : Bool) (ac : Int) (ad : ByteArray) (ae af : Int) (ag : ByteArray) (ah ai aj : Int) (b : Option Addr) (a : Nat) (a3 b5 b6 b3 b4 b7 b8 b1 b2 b9 a9 ba bb bc bd be bf bg bh bi bj bk bl : Int) (bm : Bool) (bn : Int) (bo : ByteArray) (bp bq : Int) (br : ByteArray) (bs bt bu : Int) (bv : ByteArray) (bw bx bz : Int) (ca : 1 ≤ a) {y : R___primary_Machine__Step_4} (hm : m___primary_Machine__Step_4 F a5 a6 a7 a1 ak al am p q an ao ap aq ar au r k u z A B C D E G H I J K L M N O P Q R T U m d V W Y Z aa ab ac ad ae af ag ah ai aj a3 b5 b6 b3 b4 b7 b8 b1 b2 b9 a9 ba bb bc bd be bf bg bh bi bj bk bl bm bn bo bp bq br bs bt bu bv bw bx bz = some y) : CallG Tryz.prog 16 #[pA a4 0,.agg ((kc97 b5 b6 b3 b4 b7 b8 b1 b2 b9 a9 ba bb bc bd be bf bg bh bi bj bk bl bm bn bo bp bq br bs bt bu bv bw bx bz)).toArray] (X := (Option Addr × Nat) × (Option Addr × Nat × Option Addr × Nat) × Unit) (fun (x : (Option Addr × Nat) × (Option Addr × Nat × Option Addr × Nat) × Unit) => bif y.t == 0 then (fun ⟨⟨x0,x1⟩,_,_⟩ => .agg ((kc30 x0 x1)).toArray : (Option Addr × Nat) × (Option Addr × Nat × Option Addr × Nat) × Unit → Value) x else bif y.t == 1 then (fun ⟨_,⟨x0,x1,x2,x3⟩,_⟩ => .agg ((kc30 x0 x1)).toArray : (Option Addr × Nat) × (Option Addr × Nat × Option Addr × Nat) × Unit → Value) x else (fun ⟨_,_,_⟩ => .agg ((kc103 m)).toArray : (Option Addr × Nat) × (Option Addr × Nat × Option Addr × Nat) × Unit → Value) x) [.osl b a 3 1 [[vI 1]],.cells s 104 (kc67 am p q an ao ap aq ar au r k u z A B C D E G H I J K L M N O P Q R T U m c d.length l V W Y Z aa ab ac ad ae af ag ah ai aj b a),.cells a4 80 (kc39 n ay a5 a6 a7 o a1.length az e ak.length av f al.length aw j ax s a3)] [.rd n 1 [[vI 1]],r31 o a1,r94 e ak,r91 f al,.rd j 46 [],r5 c d] (fun (x : (Option Addr × Nat) × (Option Addr × Nat × Option Addr × Nat) × Unit) => bif y.t == 0 then (fun ⟨⟨x0,x1⟩,_,_⟩ => [.osl x0 x1 65 46 [(kc34 p q r k y.a0)],.osl b a 3 1 [],.cells s 104 (kc98 am p q an ao ap aq ar au r k u z A B C D E G H I J K L M N O P Q R T U m c d.length l V W Y Z aa ab ac ad ae af ag ah ai aj b a),.cells a4 80 (kc11 n ay a5 a6 a7 o a1.length az e ak.length av f al.length aw j ax a3)] : (Option Addr × Nat) × (Option Addr × Nat × Option Addr × Nat) × Unit → List Ent) x else bif y.t == 1 then (fun ⟨_,⟨x0,x1,x2,x3⟩,_⟩ => [o9 x2 x3 y.b0,.osl x0 x1 65 46 [(kc111 p q r k x2 y.b0.length x3)],.osl b a 3 1 [],.cells s 104 (kc98 am p q an ao ap aq ar au r k u z A B C D E G H I J K L M N O P Q R T U m c d.length l V W Y Z aa ab ac ad ae af ag ah ai aj b a),.cells a4 80 (kc11 n ay a5 a6 a7 o a1.length az e ak.length av f al.length aw j ax a3)] : (Option Addr × Nat) × (Option Addr × Nat × Option Addr × Nat) × Unit → List Ent) x else (fun ⟨_,_,_⟩ => [.osl b a 3 1 [],.cells s 104 (kc102 am p q an ao ap aq ar au r k u z A B C D E G H I J K L M N O P Q R T U m c d.length l V W Y Z aa ab ac ad ae af ag ah ai aj b a),.cells a4 80 (kc39 n ay a5 a6 a7 o a1.length az e ak.length av f al.length aw j ax s a3)] : (Option Addr × Nat) × (Option Addr × Nat × Option Addr × Nat) × Unit → List Ent) x) := by
 rw [m___primary_Machine__Step_4] at hm
 refine GS.st Tryz.func16 Tryz.ntmps16 (fun w => ?_)
 refine GS.seq ?_
 refine GS.dg [1] (fun a2 => [(3,pA ((a2 0).x) 0),(4,pA ((a2 1).x) 0)]) [] (fun a2 => [(10,.cells ((a2 0).x) 65 (kc97 b5 b6 b3 b4 b7 b8 b1 b2 b9 a9 ba bb bc bd be bf bg bh bi bj bk bl bm bn bo bp bq br bs bt bu bv bw bx bz)),(11,.cells ((a2 1).x) 68 (kc13))]) [(0,hN 10),(1,hN 11)] (fun a2 => []) (fun a2 => ?_)
 refine GS.seq ?_
 refine GS.seq ?_
 refine grd_elim hm (fun g3 hm => ?_)
 refine GS.yg [] [(32,.bool (!(S_api_Pg.beq (S_api_Pg.mk b1 b2) (S_api_Pg.mk 1 0))))] [] [] [(6,hL 3 0 0),(11,hL 10 0 0),(15,hL 3 0 0),(17,hA (.eq)),(19,hP (.bool false)),(21,hL 10 0 0),(25,hL 3 0 0),(26,hA (.eq))] [qE a4,qE ((a2 0).x),qE a4,⟨(bool_eq (g3) : ((.bool (!(S_api_Node.beq (S_api_Node.mk b3 b4) (S_api_Node.mk 2 0)))) : Value) = .bool false)⟩,qE ((a2 0).x),qE a4] ?_
 refine grd_elim hm (fun g4 hm => ?_)
 refine GS.cd (!(S_api_Pg.beq (S_api_Pg.mk b1 b2) (S_api_Pg.mk 1 0))) (fun h5 => absb h5 (g4)) (fun _ => ?_)
 refine GS.skip ?_
 refine GS.seq ?_
 refine GS.seq ?_
 refine GS.eg [32] [(35,vI 35)] [] [] [(1,hL 10 0 0)] [qE ((a2 0).x)] ?_
 refine GS.block ?_
 refine GS.seq ?_
 refine GS.ez [] [(36,.bool false)] [] ?_
 refine GS.cF ?_
 refine GS.seq ?_
 refine GS.seq ?_
 refine GS.ez [36] [(41,.bool false)] [] ?_
 refine GS.cF ?_
 refine GS.ez [35] [(41,.bool true)] [] ?_
 refine GS.cT ?_
 refine GS.seq ?_
 refine bnd_elim hm (fun cf ch hm => ?_)
 refine br_elim hm (fun cg hm => ?_) (fun cg hm => ?_)
 ·skip
  refine GS.open_ ?_
  refine GR.eu 2 [0,3,41] [(44,pA a4 0),(45,.agg ((kc97 b5 b6 b3 b4 b7 b8 b1 b2 b9 a9 ba bb bc bd be bf bg bh bi bj bk bl bm bn bo bp bq br bs bt bu bv bw bx bz)).toArray)] [10] [] [(1,hL 10 0 0)] [qE ((a2 0).x)] ?_
  refine GR.cg (CallG.fT cg (w___primary_Machine__acked_3 F a4 n ay a5 a6 a7 o az a1 e av ak f aw al j ax s am p q an ao ap aq ar au r k u z A B C D E G H I J K L M N O P Q R T U m c l d V W Y Z aa ab ac ad ae af ag ah ai aj b a a3 b5 b6 b3 b4 b7 b8 b1 b2 b9 a9 ba bb bc bd be bf bg bh bi bj bk bl bm bn bo bp bq br bs bt bu bv bw bx bz ca ch)) [1,2,3] [12,1,2,3] [44,45] [] ⟨rR 4,rR 5,rR 6,rR 7,rR 8,rR 9,trivial⟩ ?_
  rintro ⟨⟨cb,a8⟩,_,_⟩
  refine GR.eu 1 [46] [] [] [(11,.cells ((a2 1).x) 68 (kc30 cb a8))] [(3,hS 11)] [qE ((a2 1).x),qE true] ?_
  refine GR.dm ?_
  have hy := Option.some.inj hm
  subst hy
  exact GS.rv [11] [qE ((a2 1).x)] Tryz.func16 ⟨⟨cb,a8⟩,⟨none,0,none,0⟩,()⟩ [12,1,2,3]
 ·skip
  refine br_elim hm (fun ci hm => ?_) (fun ci hm => ?_)
  ·skip
   refine GS.open_ ?_
   refine GR.eu 2 [0,3,41] [(44,pA a4 0),(45,.agg ((kc97 b5 b6 b3 b4 b7 b8 b1 b2 b9 a9 ba bb bc bd be bf bg bh bi bj bk bl bm bn bo bp bq br bs bt bu bv bw bx bz)).toArray)] [10] [] [(1,hL 10 0 0)] [qE ((a2 0).x)] ?_
   refine GR.cg (CallG.fT ci (CallG.fF cg (w___primary_Machine__acked_3 F a4 n ay a5 a6 a7 o az a1 e av ak f aw al j ax s am p q an ao ap aq ar au r k u z A B C D E G H I J K L M N O P Q R T U m c l d V W Y Z aa ab ac ad ae af ag ah ai aj b a a3 b5 b6 b3 b4 b7 b8 b1 b2 b9 a9 ba bb bc bd be bf bg bh bi bj bk bl bm bn bo bp bq br bs bt bu bv bw bx bz ca ch))) [1,2,3] [13,12,1,2,3] [44,45] [] ⟨rR 4,rR 5,rR 6,rR 7,rR 8,rR 9,trivial⟩ ?_
   rintro ⟨_,⟨a8,cc,cd,ce⟩,_⟩
   refine GR.eu 1 [46] [] [] [(11,.cells ((a2 1).x) 68 (kc30 a8 cc))] [(3,hS 11)] [qE ((a2 1).x),qE true] ?_
   refine GR.dm ?_
   have hy := Option.some.inj hm
   subst hy
   exact GS.rv [11] [qE ((a2 1).x)] Tryz.func16 ⟨⟨none,0⟩,⟨a8,cc,cd,ce⟩,()⟩ [13,12,1,2,3]
  ·skip
   refine GS.open_ ?_
   refine GR.eu 2 [0,3,41] [(44,pA a4 0),(45,.agg ((kc97 b5 b6 b3 b4 b7 b8 b1 b2 b9 a9 ba bb bc bd be bf bg bh bi bj bk bl bm bn bo bp bq br bs bt bu bv bw bx bz)).toArray)] [10] [] [(1,hL 10 0 0)] [qE ((a2 0).x)] ?_
   refine GR.cg (CallG.fF ci (CallG.fF cg (w___primary_Machine__acked_3 F a4 n ay a5 a6 a7 o az a1 e av ak f aw al j ax s am p q an ao ap aq ar au r k u z A B C D E G H I J K L M N O P Q R T U m c l d V W Y Z aa ab ac ad ae af ag ah ai aj b a a3 b5 b6 b3 b4 b7 b8 b1 b2 b9 a9 ba bb bc bd be bf bg bh bi bj bk bl bm bn bo bp bq br bs bt bu bv bw bx bz ca ch))) [1,2,3] [1,2,3] [44,45] [] ⟨rR 4,rR 5,rR 6,rR 7,rR 8,rR 9,trivial⟩ ?_
   rintro ⟨_,_,_⟩
   refine GR.eu 1 [46] [] [] [(11,.cells ((a2 1).x) 68 (kc103 m))] [(3,hS 11)] [qE ((a2 1).x),qE true] ?_
   refine GR.dm ?_
   have hy := Option.some.inj hm
   subst hy
   exact GS.rv [11] [qE ((a2 1).x)] Tryz.func16 ⟨⟨none,0⟩,⟨none,0,none,0⟩,()⟩ [1,2,3]

theorem w___primary_Machine__Got (F s : Nat) (d : Option Addr) (k : Nat) (o p q : Int) (e : Option Addr) (l : Nat) (m : List S_api_Entry) (a : Option Addr) (f : Nat) (i : List S_api_Last) (b : Option Addr) (g : Nat) (j : List S_api_Item) (c : Option Addr) (h : Nat) (n : Int) {y : Unit} (hm : m___primary_Machine__Got F o p q m i j n = some y) : CallG Tryz.prog 19 #[pA s 0,.agg ((kc42)).toArray,vI 0] (X := Unit) (fun (_ : Unit) => .agg ((kc13)).toArray) [] [.rd d 1 [[vI 1]],r31 e m,r94 a i,r91 b j,.rd c 46 [],.rd (some ⟨s,0,none⟩) 17 [(kc11 d k o p q e m.length l a i.length f b j.length g c h n)]] (fun (_ : Unit) => []) := by
 rw [m___primary_Machine__Got] at hm
 refine GS.st Tryz.func19 Tryz.ntmps19 (fun w => ?_)
 refine GS.seq ?_
 refine GS.dg [1] (fun r => [(4,pA ((r 0).x) 0),(6,pA ((r 1).x) 0)]) [] (fun r => [(7,.cells ((r 0).x) 62 (kc42)),(8,.cells ((r 1).x) 68 (kc13))]) [(0,hN 7),(1,hN 8)] (fun r => []) (fun r => ?_)
 refine GS.seq ?_
 refine GS.seq ?_
 refine GS.eg [] [(34,.bool true)] [] [] [(6,hR 6 0 16 (kc11 d k o p q e m.length l a i.length f b j.length g c h n)),(13,hR 6 0 13 (kc11 d k o p q e m.length l a i.length f b j.length g c h n))] [qE s,qE (offs (some ⟨s,0,none⟩) + (0 * 17 + 16)),qE (some (kc11 d k o p q e m.length l a i.length f b j.length g c h n)),qE s,qE (offs (some ⟨s,0,none⟩) + (0 * 17 + 13)),qE (some (kc11 d k o p q e m.length l a i.length f b j.length g c h n))] ?_
 refine GS.cT ?_
 refine GS.seq ?_
 refine GS.eg [0,2,4,34] [] [1,2,3,4,5,6,7] [] [(1,hS 8)] [qE ((r 1).x),qE true] ?_
 have hy := Option.some.inj hm
 subst hy
 exact GS.rv [8] [qE ((r 1).x)] Tryz.func19 () []

theorem w_primary_copied_3 (F : Nat) {y : Unit} (hm : m_primary_copied_3 F = some y) : CallG Tryz.prog 44 #[.agg ((kc42)).toArray] (X := Unit) (fun (_ : Unit) => .agg ((kc42)).toArray) [] [] (fun (_ : Unit) => []) := by
 rw [m_primary_copied_3] at hm
 refine GS.st Tryz.func44 Tryz.ntmps44 (fun w => ?_)
 refine GS.seq ?_
 refine GS.dg [0] (fun a => [(1,pA ((a 0).x) 0),(2,pA ((a 1).x) 0)]) [] (fun a => [(1,.cells ((a 0).x) 62 (kc42)),(2,.cells ((a 1).x) 62 (kc42))]) [(0,hN 1),(1,hN 2)] (fun a => []) (fun a => ?_)
 refine GS.seq ?_
 refine bnd_elim hm (fun y3 e4 hm => ?_)
 refine GS.eg [] [] [] [] [(1,hL 1 0 0),(2,hC [] (.slice none 0 0)),(4,hS 1)] [qE ((a 0).x),⟨(w_slices_Clone___byte_byte__2 F  e4).ok (es := []) trivial⟩,qE ((a 0).x),qE true] ?_
 refine GS.seq ?_
 refine GS.eg [1] [] [1] [] [(0,hL 1 0 0),(1,hS 2)] [qE ((a 0).x),qE ((a 1).x),qE true] ?_
 have hy := Option.some.inj hm
 subst hy
 exact GS.rv [2] [qE ((a 1).x)] Tryz.func44 () []

theorem w___primary_Machine__begin_6 (F B : Nat) (d : Option Addr) (l : Nat) (v z A : Int) (e : Option Addr) (m : Nat) (p : List S_api_Entry) (a : Option Addr) (f : Nat) (j : List S_api_Last) (b : Option Addr) (g : Nat) (k : List S_api_Item) (c : Option Addr) (h : Nat) (o : Int) (i : Option Addr) (u : Nat) (q r s n : Int) {y : Unit} (hm : m___primary_Machine__begin_6 F v z A p j k o q r s n = some y) : CallG Tryz.prog 46 #[pA B 0,.agg ((kc30 i u)).toArray] (X := Unit) (fun (_ : Unit) => .agg ((kc30 i u)).toArray) [] [.rd d 1 [[vI 1]],r31 e p,r94 a j,r91 b k,.rd c 46 [],.rd (some ⟨B,0,none⟩) 17 [(kc11 d l v z A e p.length m a j.length f b k.length g c h o)],.rd i 46 [(kc116 q r s n)]] (fun (_ : Unit) => []) := by
 rw [m___primary_Machine__begin_6] at hm
 refine GS.st Tryz.func46 Tryz.ntmps46 (fun w => ?_)
 refine GS.seq ?_
 refine GS.dg [1] (fun C => [(3,pA ((C 0).x) 0),(4,pA ((C 1).x) 0)]) [] (fun C => [(8,.cells ((C 0).x) 68 (kc30 i u)),(9,.cells ((C 1).x) 68 (kc13))]) [(0,hN 8),(1,hN 9)] (fun C => []) (fun C => ?_)
 refine GS.seq ?_
 refine GS.block ?_
 refine GS.loop ?_
 refine GS.seq ?_
 refine GS.seq ?_
 refine GS.eg [] [(35,.bool false)] [] [] [(3,hR 6 0 13 (kc11 d l v z A e p.length m a j.length f b k.length g c h o)),(9,hR 6 0 14 (kc11 d l v z A e p.length m a j.length f b k.length g c h o)),(16,hR 6 0 12 (kc11 d l v z A e p.length m a j.length f b k.length g c h o))] [qE B,qE (offs (some ⟨B,0,none⟩) + (0 * 17 + 13)),qE (some (kc11 d l v z A e p.length m a j.length f b k.length g c h o)),qE B,qE (offs (some ⟨B,0,none⟩) + (0 * 17 + 14)),qE (some (kc11 d l v z A e p.length m a j.length f b k.length g c h o)),qE B,qE (offs (some ⟨B,0,none⟩) + (0 * 17 + 12)),qE (some (kc11 d l v z A e p.length m a j.length f b k.length g c h o))] ?_
 refine GS.cF ?_
 refine GS.exit rfl ?_
 refine GS.seq ?_
 refine GS.eg [0,3,35] [] [1,2,3,4,5,6,8] [(9,.cells ((C 1).x) 68 (kc30 i u))] [(0,hL 8 0 0),(1,hS 9)] [qE ((C 0).x),qE ((C 1).x),qE true] ?_
 have hy := Option.some.inj hm
 subst hy
 exact GS.rv [9] [qE ((C 1).x)] Tryz.func46 () []

end Go.Proofs.YtjnbkhnebmlilaaGreat
