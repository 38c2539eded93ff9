/-
 CHAPTER 18o: the functions do what their models say (13).
-/
import Derived.Test.YtjnbkhnebmlilaaGreatE18o
import Derived.Test.YtjnbkhnebmlilaaGreatW18oa
import Derived.Test.YtjnbkhnebmlilaaGreatW18ok
import Derived.Test.YtjnbkhnebmlilaaGreatW18ol
set_option linter.unusedVariables false
set_option linter.unusedSimpArgs false
set_option maxRecDepth 100000
set_option maxHeartbeats 8000000
namespace Go.Proofs.YtjnbkhnebmlilaaGreat
open Go Go.RowKit Sx

theorem w___primary_Machine__done_5 (F ba : Nat) (ap : Option Addr) (a7 : Nat) (bb bc bd : Int) (aq : Option Addr) (a8 : Nat) (a6 : List S_api_Entry) (am : Option Addr) (az : Nat) (ar : List S_api_Last) (an : Option Addr) (a3 : Nat) (au : List S_api_Item) (ao : Option Addr) (a4 i : Nat) (af j k ag ah ai aj ak al l g u v z A B C D G H J K L : Int) (N : Bool) (O : Int) (P : ByteArray) (Q R : Int) (T : ByteArray) (U V m : Int) (n : ByteArray) (a : Option Addr) (e : Nat) (d : List UInt8) (o p W q r : Int) (Y : Bool) (c : Int) (s : ByteArray) (Z aa : Int) (ab : ByteArray) (ac ad ae : Int) (b : Option Addr) (h : Nat) (a9 : Int) {y : R___primary_Machine__done_5} (hm : m___primary_Machine__done_5 F bb bc bd a6 ar au af j k ag ah ai aj ak al l g u v z A B C D G H J K L N O P Q R T U V m n d o p W q r Y c s Z aa ab ac ad ae a9 = some y) : CallG Tryz.prog 69 #[pA ba 0,.agg ((kc13)).toArray] (X := Option Addr × Nat) (fun ⟨x0,x1⟩ => .agg ((kc30 x0 x1)).toArray) [.cells ba 80 (kc39 ap a7 bb bc bd aq a6.length a8 am ar.length az an au.length a3 ao a4 i a9)] [.rd ap 1 [[vI 1]],r31 aq a6,r94 am ar,r91 an au,.rd ao 46 [],r5 a d,.rd b 1 [],.rd (some ⟨i,0,none⟩) 61 [(kc88 af j k ag ah ai aj ak al l g u v z A B C D G H J K L N O P Q R T U V m n a d.length e o p W q r Y c s Z aa ab ac ad ae b h)]] (fun ⟨x0,x1⟩ => [.osl x0 x1 65 46 [(kc29 j k l g y.a0 y.a1 y.a2 c)],.cells ba 80 (kc11 ap a7 bb bc bd aq a6.length a8 am ar.length az an au.length a3 ao a4 a9)]) := by
 rw [m___primary_Machine__done_5] at hm
 refine GS.st Tryz.func69 Tryz.ntmps69 (fun w => ?_)
 refine GS.seq ?_
 refine GS.dg [1] (fun av => [(3,pA ((av 0).x) 0),(4,pA ((av 1).x) 0)]) [] (fun av => [(10,.cells ((av 0).x) 68 (kc13)),(11,.cells ((av 1).x) 68 (kc13))]) [(0,hN 10),(1,hN 11)] (fun av => []) (fun av => ?_)
 refine GS.seq ?_
 refine GS.eg [] [(5,pA i 0)] [] [] [(3,hL 1 0 0)] [qE ba] ?_
 refine GS.seq ?_
 refine GS.seq ?_
 refine GS.eg [] [(25,.bool false)] [] [] [(6,hR 9 0 59 (kc88 af j k ag ah ai aj ak al l g u v z A B C D G H J K L N O P Q R T U V m n a d.length e o p W q r Y c s Z aa ab ac ad ae b h))] [qE i,qE (offs (some ⟨i,0,none⟩) + (0 * 61 + 59)),qE (some (kc88 af j k ag ah ai aj ak al l g u v z A B C D G H J K L N O P Q R T U V m n a d.length e o p W q r Y c s Z aa ab ac ad ae b h))] ?_
 refine GS.cF ?_
 refine GS.skip ?_
 refine GS.seq ?_
 refine GS.dg [25] (fun bf => [(6,pA ((bf 5).x) 0)]) [] (fun bf => [(12,.cells ((bf 5).x) 34 (kc31 m n a d.length e o p))]) [(4,hR 9 0 38 (kc88 af j k ag ah ai aj ak al l g u v z A B C D G H J K L N O P Q R T U V m n a d.length e o p W q r Y c s Z aa ab ac ad ae b h)),(5,hN 12),(6,hS 12)] (fun bf => [qE i,qE (offs (some ⟨i,0,none⟩) + (0 * 61 + 38)),qE (some (kc88 af j k ag ah ai aj ak al l g u v z A B C D G H J K L N O P Q R T U V m n a d.length e o p W q r Y c s Z aa ab ac ad ae b h)),qE ((bf 5).x),qE true]) (fun bf => ?_)
 refine GS.seq ?_
 refine GS.dg [] (fun be => [(7,pA ((be 1).x) 0)]) [] (fun be => [(13,.cells ((be 1).x) 65 (kc19))]) [(1,hN 13),(2,hS 13)] (fun be => [qE ((be 1).x),qE true]) (fun be => ?_)
 refine GS.seq ?_
 refine jn_elim hm (fun bi bg hm => ?_)
 refine GS.cu (ι := ByteArray × Int × Int) (fun ⟨aw,ax,ay⟩ => bi (aw,ax,ay) = some y) [6] (fun ⟨aw,ax,ay⟩ => []) [12] (fun ⟨aw,ax,ay⟩ => [(13,.cells ((be 1).x) 65 (kc22 aw ax ay c))]) ?_ ?_
 rotate_left
 ·intro bh
  refine GS.block ?_
  refine GS.seq ?_
  refine GS.eg [] [(53,.bool true)] [] [] [(3,hR 9 0 46 (kc88 af j k ag ah ai aj ak al l g u v z A B C D G H J K L N O P Q R T U V m n a d.length e o p W q r Y c s Z aa ab ac ad ae b h))] [qE i,qE (offs (some ⟨i,0,none⟩) + (0 * 61 + 46)),qE (some (kc88 af j k ag ah ai aj ak al l g u v z A B C D G H J K L N O P Q R T U V m n a d.length e o p W q r Y c s Z aa ab ac ad ae b h))] ?_
  refine GS.cT ?_
  refine GS.seq ?_
  refine GS.eg [6,53] [] [12] [(13,.cells ((be 1).x) 65 (kc20 c))] [(4,hR 9 0 50 (kc88 af j k ag ah ai aj ak al l g u v z A B C D G H J K L N O P Q R T U V m n a d.length e o p W q r Y c s Z aa ab ac ad ae b h)),(6,hS 13)] [qE i,qE (offs (some ⟨i,0,none⟩) + (0 * 61 + 50)),qE (some (kc88 af j k ag ah ai aj ak al l g u v z A B C D G H J K L N O P Q R T U V m n a d.length e o p W q r Y c s Z aa ab ac ad ae b h)),qE ((be 1).x),qE true] ?_
  refine GS.seq ?_
  refine GS.eg [] [(66,.bool (c == 0))] [] [] [(1,hL 13 0 0)] [qE ((be 1).x)] ?_
  refine GS.cd (c == 0) (fun h9 => ?_) (fun h9 => ?_)
  ·replace hm := br_t h9 hm
   refine GS.yg [66] [] [] [(13,.cells ((be 1).x) 65 (kc22 s q r c))] [(4,hR 9 0 51 (kc88 af j k ag ah ai aj ak al l g u v z A B C D G H J K L N O P Q R T U V m n a d.length e o p W q r Y c s Z aa ab ac ad ae b h)),(9,hR 9 0 47 (kc88 af j k ag ah ai aj ak al l g u v z A B C D G H J K L N O P Q R T U V m n a d.length e o p W q r Y c s Z aa ab ac ad ae b h)),(12,hS 13)] [qE i,qE (offs (some ⟨i,0,none⟩) + (0 * 61 + 51)),qE (some (kc88 af j k ag ah ai aj ak al l g u v z A B C D G H J K L N O P Q R T U V m n a d.length e o p W q r Y c s Z aa ab ac ad ae b h)),qE i,qE (offs (some ⟨i,0,none⟩) + (0 * 61 + 47)),qE (some (kc88 af j k ag ah ai aj ak al l g u v z A B C D G H J K L N O P Q R T U V m n a d.length e o p W q r Y c s Z aa ab ac ad ae b h)),qE ((be 1).x),qE true] ?_
   refine GS.inBlock ?_
   exact GS.rs (bh ⟨s,q,r⟩ hm)
  ·replace hm := br_f h9 hm
   refine GS.skip ?_
   refine GS.inBlock ?_
   exact GS.rs (bh ⟨(ByteArray.mk #[]),0,0⟩ hm)
 ·rintro ⟨aw,ax,ay⟩ hm
  replace hm := (bg _).symm.trans hm
  try dsimp only at hm
  refine GS.seq ?_
  refine bnd_elim hm (fun bk bj hm => ?_)
  refine GS.xg [5,7] (fun a5 => []) [13] (fun a5 => [(10,.cells ((av 0).x) 68 (kc30 ((a5 10).ob) ((a5 10).cap))),(15,.osl ((a5 10).ob) ((a5 10).cap) 65 46 ([(kc29 j k l g aw ax ay c)] : List (List Value)))]) [(1,hL 10 0 0),(6,hR 9 0 0 (kc88 af j k ag ah ai aj ak al l g u v z A B C D G H J K L N O P Q R T U V m n a d.length e o p W q r Y c s Z aa ab ac ad ae b h)),(7,hL 13 0 0),(8,hC [1,7] (.agg ((kc29 j k l g aw ax ay c)).toArray)),(9,hK (.new (.row 1 46)) 14),(10,{ act := .app (some 14),key := some 15,spf := some (fun f => .slice (f.ob) 1 (f.cap)) }),(12,hS 10)] (fun a5 => [qE ((av 0).x),qE i,qE (offs (some ⟨i,0,none⟩) + (0 * 61 + 0)),qE (some (kc88 af j k ag ah ai aj ak al l g u v z A B C D G H J K L N O P Q R T U V m n a d.length e o p W q r Y c s Z aa ab ac ad ae b h)),qE ((be 1).x),⟨(w___primary_Machine__answer F ba (.slice ap 1 a7) (vI bb) (vI bc) (vI bd) (.slice aq a6.length a8) (.slice am ar.length az) (.slice an au.length a3) (.slice ao 0 a4) (pA i 0) (.bool false) (vI a9) (.bool true) af j k ag ah ai aj ak al l g u v z A B C D G H J K L N O P Q R T U V m n a e d o p W 0 0 0 0 0 0 0 0 0 0 0 0 0 0 0 0 0 0 0 0 0 0 0 false 0 (ByteArray.mk #[]) 0 0 aw ax ay 0 (ByteArray.mk #[]) 0 0 c bj).ok (es := [some (.cells ba 80 (kc39 ap a7 bb bc bd aq a6.length a8 am ar.length az an au.length a3 ao a4 i a9)),some (r5 a d)]) ⟨(.inl ⟨_,mm0,Cov.cells_rd⟩),(.inl ⟨_,mm1,Cov.refl _⟩),trivial⟩⟩,qE (some (Addr.mk (a5 9).x 0 none)),qE (([(kc29 j k l g aw ax ay c)] : List (List Value)).length),qE 0,qE 0,⟨((show 1 * (552 + 1) ≤ 70368744177664 by decide) : ([(kc29 j k l g aw ax ay c)] : List (List Value)).length * (552 + 1) ≤ 70368744177664)⟩,qE ((.slice ((a5 10).ob) (0 + ([(kc29 j k l g aw ax ay c)] : List (List Value)).length) ((a5 10).cap)) : Value),qE ((av 0).x),qE true]) (fun a5 => ?_)
  refine GS.ce 15 (fun rr : List (List Value) => .osl ((a5 10).ob) ((a5 10).cap) 65 46 rr) (show ([(kc29 j k l g aw ax ay c)] : List (List Value)) = ([(kc29 j k l g aw ax ay c)] : List (List Value)) from rfl) ?_
  refine GS.seq ?_
  refine GS.eg [0] [] [7,8,9] [(1,.cells ba 80 (kc11 ap a7 bb bc bd aq a6.length a8 am ar.length az an au.length a3 ao a4 a9))] [(3,hS 1)] [qE ba,qE true] ?_
  refine GS.seq ?_
  refine GS.eg [3] [] [10] [(11,.cells ((av 1).x) 68 (kc30 ((a5 10).ob) ((a5 10).cap)))] [(0,hL 10 0 0),(1,hS 11)] [qE ((av 0).x),qE ((av 1).x),qE true] ?_
  have hy := Option.some.inj hm
  subst hy
  exact GS.rv [11] [qE ((av 1).x)] Tryz.func69 ⟨(a5 10).ob,(a5 10).cap⟩ [15,1]

theorem w___primary_Machine__acked_2 (F a5 : Nat) (n : Option Addr) (aq : Nat) (a7 a8 a9 : Int) (o : Option Addr) (ar : Nat) (ap : List S_api_Entry) (e : Option Addr) (C : Nat) (s : List S_api_Last) (f : Option Addr) (D : Nat) (u : List S_api_Item) (j : Option Addr) (E d : Nat) (au p q av aw ax ay az a3 r l G H I J K L M N O P Q R : Int) (T : Bool) (U : Int) (V : ByteArray) (W Y : Int) (Z : ByteArray) (aa ab ac : Int) (ad : ByteArray) (c : Option Addr) (z : Nat) (k : List UInt8) (ae af ag A B : Int) (ah : Bool) (m : Int) (ai : ByteArray) (aj ak : Int) (al : ByteArray) (am an ao : Int) (a : Option Addr) (b : Nat) (a6 bf bg b8 b9 ca b7 cb cc cd bh bi bj bk bl bm bn bo bp bq br bd be : Int) (bs : Bool) (bt : Int) (bu : ByteArray) (bv bw : Int) (bx : ByteArray) (bz b0 b1 : Int) (b2 : ByteArray) (b3 b4 b5 : Int) (b6 : 1 ≤ b) {y : R___primary_Machine__acked_2} (hm : m___primary_Machine__acked_2 F a7 a8 a9 ap s u au p q av aw ax ay az a3 r l G H I J K L M N O P Q R T U V W Y Z aa ab ac ad k ae af ag A B ah m ai aj ak al am an ao a6 bf bg b8 b9 ca b7 cb cc cd bh bi bj bk bl bm bn bo bp bq br bd be bs bt bu bv bw bx bz b0 b1 b2 b3 b4 b5 = some y) : CallG Tryz.prog 43 #[pA a5 0,.agg ((kc82 bf bg b8 b9 ca b7 cb cc cd bh bi bj bk bl bm bn bo bp bq br bd be bs bt bu bv bw bx bz b0 b1 b2 b3 b4 b5)).toArray] (X := Option Addr × Nat) (fun ⟨x0,x1⟩ => .agg ((kc30 x0 x1)).toArray) [.osl a b 3 1 [[vI 1]],.cells d 104 (kc52 au p q av aw ax ay az a3 r l G H I J K L M N O P Q R T U V W Y Z aa ab ac ad c k.length z ae af ag A B ah m ai aj ak al am an ao a b),.cells a5 80 (kc39 n aq a7 a8 a9 o ap.length ar e s.length C f u.length D j E d a6)] [.rd n 1 [[vI 1]],r31 o ap,r94 e s,r91 f u,.rd j 46 [],r5 c k] (fun ⟨x0,x1⟩ => [.osl x0 x1 65 46 [(kc29 p q r l y.a0 y.a1 y.a2 m)],.osl a b 3 1 [],.cells d 104 (kc88 au p q av aw ax ay az a3 r l G H I J K L M N O P Q R T U V W Y Z aa ab ac ad c k.length z ae af ag A B ah m ai aj ak al am an ao a b),.cells a5 80 (kc11 n aq a7 a8 a9 o ap.length ar e s.length C f u.length D j E a6)]) := by
 rw [m___primary_Machine__acked_2] at hm
 refine GS.st Tryz.func43 Tryz.ntmps43 (fun w => ?_)
 refine GS.seq ?_
 refine GS.dg [1] (fun a4 => [(3,pA ((a4 0).x) 0),(4,pA ((a4 1).x) 0)]) [] (fun a4 => [(10,.cells ((a4 0).x) 65 (kc82 bf bg b8 b9 ca b7 cb cc cd bh bi bj bk bl bm bn bo bp bq br bd be bs bt bu bv bw bx bz b0 b1 b2 b3 b4 b5)),(11,.cells ((a4 1).x) 68 (kc13))]) [(0,hN 10),(1,hN 11)] (fun a4 => []) (fun a4 => ?_)
 refine GS.seq ?_
 refine GS.eg [] [(5,pA d 0)] [] [] [(3,hL 3 0 0)] [qE a5] ?_
 refine GS.seq ?_
 refine GS.seq ?_
 refine grd_elim hm (fun g4 hm => ?_)
 refine GS.yg [] [(34,.bool (bf != 2))] [] [] [(6,hL 2 0 0),(10,hL 10 0 0),(14,hL 3 0 0),(17,hP (.bool false)),(20,hL 10 0 0)] [qE d,qE ((a4 0).x),qE a5,⟨(bool_eq (g4) : ((.bool (b7 != 3)) : Value) = .bool false)⟩,qE ((a4 0).x)] ?_
 refine grd_elim hm (fun g5 hm => ?_)
 refine GS.cd (bf != 2) (fun h6 => absb h6 (g5)) (fun _ => ?_)
 refine GS.skip ?_
 refine GS.seq ?_
 refine bnd_elim hm (fun y8 e9 hm => ?_)
 refine GS.yg [34] [(6,vI 0)] [] [] [(3,hL 2 0 0),(6,hL 10 0 0),(7,hC [1] (vI 0))] [qE d,qE ((a4 0).x),⟨(w_slices_Index___int_int__2 F a b bg e9).ok (es := [some (.osl a b 3 1 [[vI 1]])]) ⟨(.inl ⟨_,mm0,Cov.osl_rd⟩),trivial⟩⟩] ?_
 refine GS.seq ?_
 refine grd_elim hm (fun ce hm => ?_)
 refine GS.yg [3] [(7,.bool true)] [10] [] [(1,hL 10 0 0),(7,hL 2 0 0),(12,hL 10 0 0),(17,hL 2 0 0),(18,hA (.eq)),(20,hP (.bool true))] [qE ((a4 0).x),qE d,qE ((a4 0).x),qE d,⟨(bool_eq (ce) : ((.bool (S_api_Version.beq (S_api_Version.mk bd be) (S_api_Version.mk A B))) : Value) = .bool true)⟩] ?_
 refine GS.seq ?_
 refine GS.seq ?_
 refine GS.ez [7] [(90,.bool false)] [] ?_
 refine GS.cF ?_
 refine GS.skip ?_
 refine GS.seq ?_
 refine bnd_elim hm (fun ci cf hm => ?_)
 refine GS.open_ ?_
 refine GR.eu 8 [5,6,90] [(92,pA d 0),(96,.slice a 1 b),(97,vI 0),(99,vI 1)] [] [] [(4,hL 2 0 0)] [qE d] ?_
 refine GR.cg (w_slices_Delete___int_int_ F a b b6 cf) [1] [1] [96,97,99] [] trivial ?_
 rintro _
 refine GR.eu 3 [92,100] [] [] [(2,.cells d 104 (kc88 au p q av aw ax ay az a3 r l G H I J K L M N O P Q R T U V W Y Z aa ab ac ad c k.length z ae af ag A B ah m ai aj ak al am an ao a b))] [(11,hS 2)] [qE d,qE true] ?_
 refine GR.dm ?_
 refine GS.seq ?_
 refine bnd_elim hm (fun bc cg hm => ?_)
 refine GS.open_ ?_
 refine GR.eu 3 [0] [(103,pA a5 0),(104,pA a5 0),(105,.agg ((kc13)).toArray)] [] [] [] [] ?_
 refine GR.cg (w___primary_Machine__done_5 F a5 n aq a7 a8 a9 o ar ap e C s f D u j E d au p q av aw ax ay az a3 r l G H I J K L M N O P Q R T U V W Y Z aa ab ac ad c z k ae af ag A B ah m ai aj ak al am an ao a b a6 cg) [3] [12,3] [104,105] [] ⟨rR 4,rR 5,rR 6,rR 7,rR 8,rR 9,rV 1 (.osl a b 3 1 []) Cov.osl_rd,rV 2 (.cells d 104 (kc88 au p q av aw ax ay az a3 r l G H I J K L M N O P Q R T U V W Y Z aa ab ac ad c k.length z ae af ag A B ah m ai aj ak al am an ao a b)) Cov.cells_rd,trivial⟩ ?_
 rintro ⟨ba,bb⟩
 refine bnd_elim hm (fun cj ch hm => ?_)
 refine GR.eu 2 [103,106] [] [] [(11,.cells ((a4 1).x) 68 (kc30 ba bb))] [(4,hC [3,4,5,6,7,8,12] (.agg ((kc30 ba bb)).toArray)),(5,hS 11)] [⟨(w___primary_Machine__begin_2 F a5 n aq a7 a8 a9 o ar ap e C s f D u j E a6 ba bb p q r l bc.a0 bc.a1 bc.a2 m ch).ok (es := [some (.cells a5 80 (kc11 n aq a7 a8 a9 o ap.length ar e s.length C f u.length D j E a6)),some (.rd n 1 [[vI 1]]),some (r31 o ap),some (r94 e s),some (r91 f u),some (.rd j 46 []),some (.osl ba bb 65 46 [(kc29 p q r l bc.a0 bc.a1 bc.a2 m)])]) ⟨(.inl ⟨_,mm1,Cov.refl _⟩),(.inl ⟨_,mm2,Cov.refl _⟩),(.inl ⟨_,mm3,Cov.refl _⟩),(.inl ⟨_,mm4,Cov.refl _⟩),(.inl ⟨_,mm5,Cov.refl _⟩),(.inl ⟨_,mm0,Cov.cells_rd⟩),(.inl ⟨_,mm6,Cov.osl_rd⟩),trivial⟩⟩,qE ((a4 1).x),qE true] ?_
 refine GR.dm ?_
 have hy := Option.some.inj hm
 subst hy
 exact GS.rv [11] [qE ((a4 1).x)] Tryz.func43 ⟨ba,bb⟩ [12,1,2,3]

theorem w___primary_Machine__Step_3 (F a6 : Nat) (q : Option Addr) (a4 : Nat) (a8 a9 ba : Int) (r : Option Addr) (a5 : Nat) (a3 : List S_api_Entry) (e : Option Addr) (aw : Nat) (al : List S_api_Last) (f : Option Addr) (ax : Nat) (am : List S_api_Item) (j : Option Addr) (ay ak : Nat) (an n o ao ap aq ar au av p k s u z A B C D E G H I J : Int) (K : Bool) (L : Int) (M : ByteArray) (O P : Int) (Q : ByteArray) (R T U : Int) (V : ByteArray) (c : Option Addr) (m : Nat) (d : List UInt8) (W Y Z aa ab : Int) (ac : Bool) (l : Int) (ad : ByteArray) (ae af : Int) (ag : ByteArray) (ah ai aj : Int) (b : Option Addr) (a : Nat) (a7 b8 b9 b6 b7 ca cb b4 b5 cc bb bc bd be bf bg bh bi bj bk bl bm bn : Int) (bo : Bool) (bp : Int) (bq : ByteArray) (br bs : Int) (bt : ByteArray) (bu bv bw : Int) (bx : ByteArray) (bz b0 b1 : Int) (cd : 1 ≤ a) {y : R___primary_Machine__Step_3} (hm : m___primary_Machine__Step_3 F a8 a9 ba a3 al am an n o ao ap aq ar au av p k s u z A B C D E G H I J K L M O P Q R T U V d W Y Z aa ab ac l ad ae af ag ah ai aj a7 b8 b9 b6 b7 ca cb b4 b5 cc bb bc bd be bf bg bh bi bj bk bl bm bn bo bp bq br bs bt bu bv bw bx bz b0 b1 = some y) : CallG Tryz.prog 16 #[pA a6 0,.agg ((kc82 b8 b9 b6 b7 ca cb b4 b5 cc bb bc bd be bf bg bh bi bj bk bl bm bn bo bp bq br bs bt bu bv bw bx bz b0 b1)).toArray] (X := Option Addr × Nat) (fun ⟨x0,x1⟩ => .agg ((kc30 x0 x1)).toArray) [.osl b a 3 1 [[vI 1]],.cells ak 104 (kc52 an n o ao ap aq ar au av p k s u z A B C D E G H I J K L M O P Q R T U V c d.length m W Y Z aa ab ac l ad ae af ag ah ai aj b a),.cells a6 80 (kc39 q a4 a8 a9 ba r a3.length a5 e al.length aw f am.length ax j ay ak a7)] [.rd q 1 [[vI 1]],r31 r a3,r94 e al,r91 f am,.rd j 46 [],r5 c d] (fun ⟨x0,x1⟩ => [.osl x0 x1 65 46 [(kc29 n o p k y.a0 y.a1 y.a2 l)],.osl b a 3 1 [],.cells ak 104 (kc88 an n o ao ap aq ar au av p k s u z A B C D E G H I J K L M O P Q R T U V c d.length m W Y Z aa ab ac l ad ae af ag ah ai aj b a),.cells a6 80 (kc11 q a4 a8 a9 ba r a3.length a5 e al.length aw f am.length ax j ay a7)]) := by
 rw [m___primary_Machine__Step_3] at hm
 refine GS.st Tryz.func16 Tryz.ntmps16 (fun w => ?_)
 refine GS.seq ?_
 refine GS.dg [1] (fun az => [(3,pA ((az 0).x) 0),(4,pA ((az 1).x) 0)]) [] (fun az => [(10,.cells ((az 0).x) 65 (kc82 b8 b9 b6 b7 ca cb b4 b5 cc bb bc bd be bf bg bh bi bj bk bl bm bn bo bp bq br bs bt bu bv bw bx bz b0 b1)),(11,.cells ((az 1).x) 68 (kc13))]) [(0,hN 10),(1,hN 11)] (fun az => []) (fun az => ?_)
 refine GS.seq ?_
 refine GS.seq ?_
 refine grd_elim hm (fun g3 hm => ?_)
 refine GS.yg [] [(32,.bool (!(S_api_Pg.beq (S_api_Pg.mk b4 b5) (S_api_Pg.mk 1 0))))] [] [] [(6,hL 3 0 0),(11,hL 10 0 0),(15,hL 3 0 0),(17,hA (.eq)),(19,hP (.bool false)),(21,hL 10 0 0),(25,hL 3 0 0),(26,hA (.eq))] [qE a6,qE ((az 0).x),qE a6,⟨(bool_eq (g3) : ((.bool (!(S_api_Node.beq (S_api_Node.mk b6 b7) (S_api_Node.mk 2 0)))) : Value) = .bool false)⟩,qE ((az 0).x),qE a6] ?_
 refine grd_elim hm (fun g4 hm => ?_)
 refine GS.cd (!(S_api_Pg.beq (S_api_Pg.mk b4 b5) (S_api_Pg.mk 1 0))) (fun h5 => absb h5 (g4)) (fun _ => ?_)
 refine GS.skip ?_
 refine GS.seq ?_
 refine GS.seq ?_
 refine GS.eg [32] [(35,vI 33)] [] [] [(1,hL 10 0 0)] [qE ((az 0).x)] ?_
 refine GS.block ?_
 refine GS.seq ?_
 refine GS.ez [] [(36,.bool false)] [] ?_
 refine GS.cF ?_
 refine GS.seq ?_
 refine GS.seq ?_
 refine GS.ez [36] [(41,.bool true)] [] ?_
 refine GS.cT ?_
 refine GS.skip ?_
 refine GS.cT ?_
 refine GS.seq ?_
 refine bnd_elim hm (fun ce cf hm => ?_)
 refine GS.open_ ?_
 refine GR.eu 2 [0,3,35,41] [(44,pA a6 0),(45,.agg ((kc82 b8 b9 b6 b7 ca cb b4 b5 cc bb bc bd be bf bg bh bi bj bk bl bm bn bo bp bq br bs bt bu bv bw bx bz b0 b1)).toArray)] [10] [] [(1,hL 10 0 0)] [qE ((az 0).x)] ?_
 refine GR.cg (w___primary_Machine__acked_2 F a6 q a4 a8 a9 ba r a5 a3 e aw al f ax am j ay ak an n o ao ap aq ar au av p k s u z A B C D E G H I J K L M O P Q R T U V c m d W Y Z aa ab ac l ad ae af ag ah ai aj b a a7 b8 b9 b6 b7 ca cb b4 b5 cc bb bc bd be bf bg bh bi bj bk bl bm bn bo bp bq br bs bt bu bv bw bx bz b0 b1 cd cf) [1,2,3] [12,1,2,3] [44,45] [] ⟨rR 4,rR 5,rR 6,rR 7,rR 8,rR 9,trivial⟩ ?_
 rintro ⟨b2,b3⟩
 refine GR.eu 1 [46] [] [] [(11,.cells ((az 1).x) 68 (kc30 b2 b3))] [(3,hS 11)] [qE ((az 1).x),qE true] ?_
 refine GR.dm ?_
 have hy := Option.some.inj hm
 subst hy
 exact GS.rv [11] [qE ((az 1).x)] Tryz.func16 ⟨b2,b3⟩ [12,1,2,3]

end Go.Proofs.YtjnbkhnebmlilaaGreat
