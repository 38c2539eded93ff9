/-
 CHAPTER 18o: the functions do what their models say (12).
-/
import Derived.Test.YtjnbkhnebmlilaaGreatE18o
import Derived.Test.YtjnbkhnebmlilaaGreatW18oa
import Derived.Test.YtjnbkhnebmlilaaGreatW18ok
set_option linter.unusedVariables false
set_option linter.unusedSimpArgs false
set_option maxRecDepth 100000
set_option maxHeartbeats 8000000
namespace Go.Proofs.YtjnbkhnebmlilaaGreat
open Go Go.RowKit Sx

theorem w___primary_Machine__done_4 (F bd : Nat) (au : Option Addr) (ba : Nat) (be bf bg : Int) (av : Option Addr) (bb : Nat) (a9 : List S_api_Entry) (ap : Option Addr) (a5 : Nat) (aw : List S_api_Last) (aq : Option Addr) (a6 : Nat) (ax : List S_api_Item) (ar : Option Addr) (a7 l : Nat) (ai m n aj ak al am an ao o h A B C D G H J K L N O P : Int) (Q : Bool) (R : Int) (T : ByteArray) (U V : Int) (W : ByteArray) (Y Z p : Int) (q : ByteArray) (a : Option Addr) (g : Nat) (e : List UInt8) (r s aa u v : Int) (ab : Bool) (d : Int) (z : ByteArray) (ac ad : Int) (ae : ByteArray) (af ag : Int) (b : Option Addr) (j : Nat) (i : List UInt8) (ah : Int) (c : Option Addr) (k : Nat) (bc : Int) {y : R___primary_Machine__done_4} (hm : m___primary_Machine__done_4 F be bf bg a9 aw ax ai m n aj ak al am an ao o h A B C D G H J K L N O P Q R T U V W Y Z p q e r s aa u v ab d z ac ad ae af ag i ah bc = some y) : CallG Tryz.prog 69 #[pA bd 0,.agg ((kc13)).toArray] (X := Option Addr × Nat) (fun ⟨x0,x1⟩ => .agg ((kc30 x0 x1)).toArray) [.cells bd 80 (kc39 au ba be bf bg av a9.length bb ap aw.length a5 aq ax.length a6 ar a7 l bc)] [.rd au 1 [[vI 1]],r31 av a9,r94 ap aw,r91 aq ax,.rd ar 46 [],r5 a e,r5 b i,.rd c 1 [],.rd (some ⟨l,0,none⟩) 61 [(kc83 ai m n aj ak al am an ao o h A B C D G H J K L N O P Q R T U V W Y Z p q a e.length g r s aa u v ab d z ac ad ae af ag b i.length j ah c k)]] (fun ⟨x0,x1⟩ => [.osl x0 x1 65 46 [(kc29 m n o h y.a0 y.a1 y.a2 d)],.cells bd 80 (kc11 au ba be bf bg av a9.length bb ap aw.length a5 aq ax.length a6 ar a7 bc)]) := by
 rw [m___primary_Machine__done_4] at hm
 refine GS.st Tryz.func69 Tryz.ntmps69 (fun w => ?_)
 refine GS.seq ?_
 refine GS.dg [1] (fun ay => [(3,pA ((ay 0).x) 0),(4,pA ((ay 1).x) 0)]) [] (fun ay => [(11,.cells ((ay 0).x) 68 (kc13)),(12,.cells ((ay 1).x) 68 (kc13))]) [(0,hN 11),(1,hN 12)] (fun ay => []) (fun ay => ?_)
 refine GS.seq ?_
 refine GS.eg [] [(5,pA l 0)] [] [] [(3,hL 1 0 0)] [qE bd] ?_
 refine GS.seq ?_
 refine GS.seq ?_
 refine GS.eg [] [(25,.bool false)] [] [] [(6,hR 10 0 59 (kc83 ai m n aj ak al am an ao o h A B C D G H J K L N O P Q R T U V W Y Z p q a e.length g r s aa u v ab d z ac ad ae af ag b i.length j ah c k))] [qE l,qE (offs (some ⟨l,0,none⟩) + (0 * 61 + 59)),qE (some (kc83 ai m n aj ak al am an ao o h A B C D G H J K L N O P Q R T U V W Y Z p q a e.length g r s aa u v ab d z ac ad ae af ag b i.length j ah c k))] ?_
 refine GS.cF ?_
 refine GS.skip ?_
 refine GS.seq ?_
 refine GS.dg [25] (fun bi => [(6,pA ((bi 5).x) 0)]) [] (fun bi => [(13,.cells ((bi 5).x) 34 (kc31 p q a e.length g r s))]) [(4,hR 10 0 38 (kc83 ai m n aj ak al am an ao o h A B C D G H J K L N O P Q R T U V W Y Z p q a e.length g r s aa u v ab d z ac ad ae af ag b i.length j ah c k)),(5,hN 13),(6,hS 13)] (fun bi => [qE l,qE (offs (some ⟨l,0,none⟩) + (0 * 61 + 38)),qE (some (kc83 ai m n aj ak al am an ao o h A B C D G H J K L N O P Q R T U V W Y Z p q a e.length g r s aa u v ab d z ac ad ae af ag b i.length j ah c k)),qE ((bi 5).x),qE true]) (fun bi => ?_)
 refine GS.seq ?_
 refine GS.dg [] (fun bh => [(7,pA ((bh 1).x) 0)]) [] (fun bh => [(14,.cells ((bh 1).x) 65 (kc19))]) [(1,hN 14),(2,hS 14)] (fun bh => [qE ((bh 1).x),qE true]) (fun bh => ?_)
 refine GS.seq ?_
 refine jn_elim hm (fun bl bj hm => ?_)
 refine GS.cu (ι := ByteArray × Int × Int) (fun ⟨az,a3,a4⟩ => bl (az,a3,a4) = some y) [6] (fun ⟨az,a3,a4⟩ => []) [13] (fun ⟨az,a3,a4⟩ => [(14,.cells ((bh 1).x) 65 (kc22 az a3 a4 d))]) ?_ ?_
 rotate_left
 ·intro bk
  refine GS.block ?_
  refine GS.seq ?_
  refine GS.eg [] [(53,.bool true)] [] [] [(3,hR 10 0 46 (kc83 ai m n aj ak al am an ao o h A B C D G H J K L N O P Q R T U V W Y Z p q a e.length g r s aa u v ab d z ac ad ae af ag b i.length j ah c k))] [qE l,qE (offs (some ⟨l,0,none⟩) + (0 * 61 + 46)),qE (some (kc83 ai m n aj ak al am an ao o h A B C D G H J K L N O P Q R T U V W Y Z p q a e.length g r s aa u v ab d z ac ad ae af ag b i.length j ah c k))] ?_
  refine GS.cT ?_
  refine GS.seq ?_
  refine GS.eg [6,53] [] [13] [(14,.cells ((bh 1).x) 65 (kc20 d))] [(4,hR 10 0 50 (kc83 ai m n aj ak al am an ao o h A B C D G H J K L N O P Q R T U V W Y Z p q a e.length g r s aa u v ab d z ac ad ae af ag b i.length j ah c k)),(6,hS 14)] [qE l,qE (offs (some ⟨l,0,none⟩) + (0 * 61 + 50)),qE (some (kc83 ai m n aj ak al am an ao o h A B C D G H J K L N O P Q R T U V W Y Z p q a e.length g r s aa u v ab d z ac ad ae af ag b i.length j ah c k)),qE ((bh 1).x),qE true] ?_
  refine GS.seq ?_
  refine GS.eg [] [(66,.bool (d == 0))] [] [] [(1,hL 14 0 0)] [qE ((bh 1).x)] ?_
  refine GS.cd (d == 0) (fun h9 => ?_) (fun h9 => ?_)
  ·replace hm := br_t h9 hm
   refine GS.yg [66] [] [] [(14,.cells ((bh 1).x) 65 (kc22 z u v d))] [(4,hR 10 0 51 (kc83 ai m n aj ak al am an ao o h A B C D G H J K L N O P Q R T U V W Y Z p q a e.length g r s aa u v ab d z ac ad ae af ag b i.length j ah c k)),(9,hR 10 0 47 (kc83 ai m n aj ak al am an ao o h A B C D G H J K L N O P Q R T U V W Y Z p q a e.length g r s aa u v ab d z ac ad ae af ag b i.length j ah c k)),(12,hS 14)] [qE l,qE (offs (some ⟨l,0,none⟩) + (0 * 61 + 51)),qE (some (kc83 ai m n aj ak al am an ao o h A B C D G H J K L N O P Q R T U V W Y Z p q a e.length g r s aa u v ab d z ac ad ae af ag b i.length j ah c k)),qE l,qE (offs (some ⟨l,0,none⟩) + (0 * 61 + 47)),qE (some (kc83 ai m n aj ak al am an ao o h A B C D G H J K L N O P Q R T U V W Y Z p q a e.length g r s aa u v ab d z ac ad ae af ag b i.length j ah c k)),qE ((bh 1).x),qE true] ?_
   refine GS.inBlock ?_
   exact GS.rs (bk ⟨z,u,v⟩ hm)
  ·replace hm := br_f h9 hm
   refine GS.skip ?_
   refine GS.inBlock ?_
   exact GS.rs (bk ⟨(ByteArray.mk #[]),0,0⟩ hm)
 ·rintro ⟨az,a3,a4⟩ hm
  replace hm := (bj _).symm.trans hm
  try dsimp only at hm
  refine GS.seq ?_
  refine bnd_elim hm (fun bn bm hm => ?_)
  refine GS.xg [5,7] (fun a8 => []) [14] (fun a8 => [(11,.cells ((ay 0).x) 68 (kc30 ((a8 10).ob) ((a8 10).cap))),(16,.osl ((a8 10).ob) ((a8 10).cap) 65 46 ([(kc29 m n o h az a3 a4 d)] : List (List Value)))]) [(1,hL 11 0 0),(6,hR 10 0 0 (kc83 ai m n aj ak al am an ao o h A B C D G H J K L N O P Q R T U V W Y Z p q a e.length g r s aa u v ab d z ac ad ae af ag b i.length j ah c k)),(7,hL 14 0 0),(8,hC [1,7] (.agg ((kc29 m n o h az a3 a4 d)).toArray)),(9,hK (.new (.row 1 46)) 15),(10,{ act := .app (some 15),key := some 16,spf := some (fun f => .slice (f.ob) 1 (f.cap)) }),(12,hS 11)] (fun a8 => [qE ((ay 0).x),qE l,qE (offs (some ⟨l,0,none⟩) + (0 * 61 + 0)),qE (some (kc83 ai m n aj ak al am an ao o h A B C D G H J K L N O P Q R T U V W Y Z p q a e.length g r s aa u v ab d z ac ad ae af ag b i.length j ah c k)),qE ((bh 1).x),⟨(w___primary_Machine__answer F bd (.slice au 1 ba) (vI be) (vI bf) (vI bg) (.slice av a9.length bb) (.slice ap aw.length a5) (.slice aq ax.length a6) (.slice ar 0 a7) (pA l 0) (.bool false) (vI bc) (.bool true) ai m n aj ak al am an ao o h A B C D G H J K L N O P Q R T U V W Y Z p q a g e r s aa 0 0 0 0 0 0 0 0 0 0 0 0 0 0 0 0 0 0 0 0 0 0 0 false 0 (ByteArray.mk #[]) 0 0 az a3 a4 0 (ByteArray.mk #[]) 0 0 d bm).ok (es := [some (.cells bd 80 (kc39 au ba be bf bg av a9.length bb ap aw.length a5 aq ax.length a6 ar a7 l bc)),some (r5 a e)]) ⟨(.inl ⟨_,mm0,Cov.cells_rd⟩),(.inl ⟨_,mm1,Cov.refl _⟩),trivial⟩⟩,qE (some (Addr.mk (a8 9).x 0 none)),qE (([(kc29 m n o h az a3 a4 d)] : List (List Value)).length),qE 0,qE 0,⟨((show 1 * (552 + 1) ≤ 70368744177664 by decide) : ([(kc29 m n o h az a3 a4 d)] : List (List Value)).length * (552 + 1) ≤ 70368744177664)⟩,qE ((.slice ((a8 10).ob) (0 + ([(kc29 m n o h az a3 a4 d)] : List (List Value)).length) ((a8 10).cap)) : Value),qE ((ay 0).x),qE true]) (fun a8 => ?_)
  refine GS.ce 16 (fun rr : List (List Value) => .osl ((a8 10).ob) ((a8 10).cap) 65 46 rr) (show ([(kc29 m n o h az a3 a4 d)] : List (List Value)) = ([(kc29 m n o h az a3 a4 d)] : List (List Value)) from rfl) ?_
  refine GS.seq ?_
  refine GS.eg [0] [] [7,8,9,10] [(1,.cells bd 80 (kc11 au ba be bf bg av a9.length bb ap aw.length a5 aq ax.length a6 ar a7 bc))] [(3,hS 1)] [qE bd,qE true] ?_
  refine GS.seq ?_
  refine GS.eg [3] [] [11] [(12,.cells ((ay 1).x) 68 (kc30 ((a8 10).ob) ((a8 10).cap)))] [(0,hL 11 0 0),(1,hS 12)] [qE ((ay 0).x),qE ((ay 1).x),qE true] ?_
  have hy := Option.some.inj hm
  subst hy
  exact GS.rv [12] [qE ((ay 1).x)] Tryz.func69 ⟨(a8 10).ob,(a8 10).cap⟩ [16,1]

theorem w___primary_Machine__begin_2 (F G : Nat) (d : Option Addr) (l : Nat) (C D E : Int) (e : Option Addr) (m : Nat) (u : List S_api_Entry) (a : Option Addr) (f : Nat) (j : List S_api_Last) (b : Option Addr) (g : Nat) (k : List S_api_Item) (c : Option Addr) (h : Nat) (s : Int) (i : Option Addr) (B : Nat) (v z A n : Int) (o : ByteArray) (p q r : Int) {y : Unit} (hm : m___primary_Machine__begin_2 F C D E u j k s v z A n o p q r = some y) : CallG Tryz.prog 46 #[pA G 0,.agg ((kc30 i B)).toArray] (X := Unit) (fun (_ : Unit) => .agg ((kc30 i B)).toArray) [] [.rd d 1 [[vI 1]],r31 e u,r94 a j,r91 b k,.rd c 46 [],.rd (some ⟨G,0,none⟩) 17 [(kc11 d l C D E e u.length m a j.length f b k.length g c h s)],.rd i 46 [(kc29 v z A n o p q r)]] (fun (_ : Unit) => []) := by
 rw [m___primary_Machine__begin_2] at hm
 refine GS.st Tryz.func46 Tryz.ntmps46 (fun w => ?_)
 refine GS.seq ?_
 refine GS.dg [1] (fun H => [(3,pA ((H 0).x) 0),(4,pA ((H 1).x) 0)]) [] (fun H => [(8,.cells ((H 0).x) 68 (kc30 i B)),(9,.cells ((H 1).x) 68 (kc13))]) [(0,hN 8),(1,hN 9)] (fun H => []) (fun H => ?_)
 refine GS.seq ?_
 refine GS.block ?_
 refine GS.loop ?_
 refine GS.seq ?_
 refine GS.seq ?_
 refine GS.eg [] [(35,.bool false)] [] [] [(3,hR 6 0 13 (kc11 d l C D E e u.length m a j.length f b k.length g c h s)),(9,hR 6 0 14 (kc11 d l C D E e u.length m a j.length f b k.length g c h s)),(16,hR 6 0 12 (kc11 d l C D E e u.length m a j.length f b k.length g c h s))] [qE G,qE (offs (some ⟨G,0,none⟩) + (0 * 17 + 13)),qE (some (kc11 d l C D E e u.length m a j.length f b k.length g c h s)),qE G,qE (offs (some ⟨G,0,none⟩) + (0 * 17 + 14)),qE (some (kc11 d l C D E e u.length m a j.length f b k.length g c h s)),qE G,qE (offs (some ⟨G,0,none⟩) + (0 * 17 + 12)),qE (some (kc11 d l C D E e u.length m a j.length f b k.length g c h s))] ?_
 refine GS.cF ?_
 refine GS.exit rfl ?_
 refine GS.seq ?_
 refine GS.eg [0,3,35] [] [1,2,3,4,5,6,8] [(9,.cells ((H 1).x) 68 (kc30 i B))] [(0,hL 8 0 0),(1,hS 9)] [qE ((H 0).x),qE ((H 1).x),qE true] ?_
 have hy := Option.some.inj hm
 subst hy
 exact GS.rv [9] [qE ((H 1).x)] Tryz.func46 () []

theorem w___primary_Machine__acked (F a8 : Nat) (p : Option Addr) (av : Nat) (ba bb bc : Int) (q : Option Addr) (aw : Nat) (au : List S_api_Entry) (f : Option Addr) (G : Nat) (z : List S_api_Last) (j : Option Addr) (H : Nat) (A : List S_api_Item) (k : Option Addr) (I e : Nat) (ax r s ay az a3 a4 a5 a6 u n J K L M N O P Q R T U V : Int) (W : Bool) (Y : Int) (Z : ByteArray) (aa ab : Int) (ac : ByteArray) (ad ae af : Int) (ag : ByteArray) (c : Option Addr) (B : Nat) (l : List UInt8) (ah ai aj D E : Int) (ak : Bool) (o : Int) (al : ByteArray) (am an : Int) (ao : ByteArray) (ap aq : Int) (d : Option Addr) (C : Nat) (m : List UInt8) (ar : Int) (a : Option Addr) (b : Nat) (a9 bi bj cb cc cd ca ce cf cg bk bl bm bn bo bp bq br bs bt bu bg bh : Int) (bv : Bool) (bw : Int) (bx : ByteArray) (bz b0 : Int) (b1 : ByteArray) (b2 b3 b4 : Int) (b5 : ByteArray) (b6 b7 b8 : Int) (b9 : 1 ≤ b) {y : R___primary_Machine__acked} (hm : m___primary_Machine__acked F ba bb bc au z A ax r s ay az a3 a4 a5 a6 u n J K L M N O P Q R T U V W Y Z aa ab ac ad ae af ag l ah ai aj D E ak o al am an ao ap aq m ar a9 bi bj cb cc cd ca ce cf cg bk bl bm bn bo bp bq br bs bt bu bg bh bv bw bx bz b0 b1 b2 b3 b4 b5 b6 b7 b8 = some y) : CallG Tryz.prog 43 #[pA a8 0,.agg ((kc82 bi bj cb cc cd ca ce cf cg bk bl bm bn bo bp bq br bs bt bu bg bh bv bw bx bz b0 b1 b2 b3 b4 b5 b6 b7 b8)).toArray] (X := Option Addr × Nat) (fun ⟨x0,x1⟩ => .agg ((kc30 x0 x1)).toArray) [.osl a b 3 1 [[vI 1]],.cells e 104 (kc40 ax r s ay az a3 a4 a5 a6 u n J K L M N O P Q R T U V W Y Z aa ab ac ad ae af ag c l.length B ah ai aj D E ak o al am an ao ap aq d m.length C ar a b),.cells a8 80 (kc39 p av ba bb bc q au.length aw f z.length G j A.length H k I e a9)] [.rd p 1 [[vI 1]],r31 q au,r94 f z,r91 j A,.rd k 46 [],r5 c l,r5 d m] (fun ⟨x0,x1⟩ => [.osl x0 x1 65 46 [(kc29 r s u n y.a0 y.a1 y.a2 o)],.osl a b 3 1 [],.cells e 104 (kc83 ax r s ay az a3 a4 a5 a6 u n J K L M N O P Q R T U V W Y Z aa ab ac ad ae af ag c l.length B ah ai aj D E ak o al am an ao ap aq d m.length C ar a b),.cells a8 80 (kc11 p av ba bb bc q au.length aw f z.length G j A.length H k I a9)]) := by
 rw [m___primary_Machine__acked] at hm
 refine GS.st Tryz.func43 Tryz.ntmps43 (fun w => ?_)
 refine GS.seq ?_
 refine GS.dg [1] (fun a7 => [(3,pA ((a7 0).x) 0),(4,pA ((a7 1).x) 0)]) [] (fun a7 => [(11,.cells ((a7 0).x) 65 (kc82 bi bj cb cc cd ca ce cf cg bk bl bm bn bo bp bq br bs bt bu bg bh bv bw bx bz b0 b1 b2 b3 b4 b5 b6 b7 b8)),(12,.cells ((a7 1).x) 68 (kc13))]) [(0,hN 11),(1,hN 12)] (fun a7 => []) (fun a7 => ?_)
 refine GS.seq ?_
 refine GS.eg [] [(5,pA e 0)] [] [] [(3,hL 3 0 0)] [qE a8] ?_
 refine GS.seq ?_
 refine GS.seq ?_
 refine grd_elim hm (fun g4 hm => ?_)
 refine GS.yg [] [(34,.bool (bi != 2))] [] [] [(6,hL 2 0 0),(10,hL 11 0 0),(14,hL 3 0 0),(17,hP (.bool false)),(20,hL 11 0 0)] [qE e,qE ((a7 0).x),qE a8,⟨(bool_eq (g4) : ((.bool (ca != 3)) : Value) = .bool false)⟩,qE ((a7 0).x)] ?_
 refine grd_elim hm (fun g5 hm => ?_)
 refine GS.cd (bi != 2) (fun h6 => absb h6 (g5)) (fun _ => ?_)
 refine GS.skip ?_
 refine GS.seq ?_
 refine bnd_elim hm (fun y8 e9 hm => ?_)
 refine GS.yg [34] [(6,vI 0)] [] [] [(3,hL 2 0 0),(6,hL 11 0 0),(7,hC [1] (vI 0))] [qE e,qE ((a7 0).x),⟨(w_slices_Index___int_int__2 F a b bj e9).ok (es := [some (.osl a b 3 1 [[vI 1]])]) ⟨(.inl ⟨_,mm0,Cov.osl_rd⟩),trivial⟩⟩] ?_
 refine GS.seq ?_
 refine grd_elim hm (fun ch hm => ?_)
 refine GS.yg [3] [(7,.bool true)] [11] [] [(1,hL 11 0 0),(7,hL 2 0 0),(12,hL 11 0 0),(17,hL 2 0 0),(18,hA (.eq)),(20,hP (.bool true))] [qE ((a7 0).x),qE e,qE ((a7 0).x),qE e,⟨(bool_eq (ch) : ((.bool (S_api_Version.beq (S_api_Version.mk bg bh) (S_api_Version.mk D E))) : Value) = .bool true)⟩] ?_
 refine GS.seq ?_
 refine GS.seq ?_
 refine GS.ez [7] [(90,.bool false)] [] ?_
 refine GS.cF ?_
 refine GS.skip ?_
 refine GS.seq ?_
 refine bnd_elim hm (fun cl ci hm => ?_)
 refine GS.open_ ?_
 refine GR.eu 8 [5,6,90] [(92,pA e 0),(96,.slice a 1 b),(97,vI 0),(99,vI 1)] [] [] [(4,hL 2 0 0)] [qE e] ?_
 refine GR.cg (w_slices_Delete___int_int_ F a b b9 ci) [1] [1] [96,97,99] [] trivial ?_
 rintro _
 refine GR.eu 3 [92,100] [] [] [(2,.cells e 104 (kc83 ax r s ay az a3 a4 a5 a6 u n J K L M N O P Q R T U V W Y Z aa ab ac ad ae af ag c l.length B ah ai aj D E ak o al am an ao ap aq d m.length C ar a b))] [(11,hS 2)] [qE e,qE true] ?_
 refine GR.dm ?_
 refine GS.seq ?_
 refine bnd_elim hm (fun bf cj hm => ?_)
 refine GS.open_ ?_
 refine GR.eu 3 [0] [(103,pA a8 0),(104,pA a8 0),(105,.agg ((kc13)).toArray)] [] [] [] [] ?_
 refine GR.cg (w___primary_Machine__done_4 F a8 p av ba bb bc q aw au f G z j H A k I e ax r s ay az a3 a4 a5 a6 u n J K L M N O P Q R T U V W Y Z aa ab ac ad ae af ag c B l ah ai aj D E ak o al am an ao ap aq d C m ar a b a9 cj) [3] [13,3] [104,105] [] ⟨rR 4,rR 5,rR 6,rR 7,rR 8,rR 9,rR 10,rV 1 (.osl a b 3 1 []) Cov.osl_rd,rV 2 (.cells e 104 (kc83 ax r s ay az a3 a4 a5 a6 u n J K L M N O P Q R T U V W Y Z aa ab ac ad ae af ag c l.length B ah ai aj D E ak o al am an ao ap aq d m.length C ar a b)) Cov.cells_rd,trivial⟩ ?_
 rintro ⟨bd,be⟩
 refine bnd_elim hm (fun cm ck hm => ?_)
 refine GR.eu 2 [103,106] [] [] [(12,.cells ((a7 1).x) 68 (kc30 bd be))] [(4,hC [3,4,5,6,7,8,13] (.agg ((kc30 bd be)).toArray)),(5,hS 12)] [⟨(w___primary_Machine__begin_2 F a8 p av ba bb bc q aw au f G z j H A k I a9 bd be r s u n bf.a0 bf.a1 bf.a2 o ck).ok (es := [some (.cells a8 80 (kc11 p av ba bb bc q au.length aw f z.length G j A.length H k I a9)),some (.rd p 1 [[vI 1]]),some (r31 q au),some (r94 f z),some (r91 j A),some (.rd k 46 []),some (.osl bd be 65 46 [(kc29 r s u n bf.a0 bf.a1 bf.a2 o)])]) ⟨(.inl ⟨_,mm1,Cov.refl _⟩),(.inl ⟨_,mm2,Cov.refl _⟩),(.inl ⟨_,mm3,Cov.refl _⟩),(.inl ⟨_,mm4,Cov.refl _⟩),(.inl ⟨_,mm5,Cov.refl _⟩),(.inl ⟨_,mm0,Cov.cells_rd⟩),(.inl ⟨_,mm6,Cov.osl_rd⟩),trivial⟩⟩,qE ((a7 1).x),qE true] ?_
 refine GR.dm ?_
 have hy := Option.some.inj hm
 subst hy
 exact GS.rv [12] [qE ((a7 1).x)] Tryz.func43 ⟨bd,be⟩ [13,1,2,3]

theorem w___primary_Machine__Step_2 (F a8 : Nat) (u : Option Addr) (a6 : Nat) (ba bb bc : Int) (z : Option Addr) (a7 : Nat) (a5 : List S_api_Entry) (j : Option Addr) (ay : Nat) (an : List S_api_Last) (k : Option Addr) (az : Nat) (ao : List S_api_Item) (l : Option Addr) (a3 am : Nat) (ap q r aq ar au av aw ax s m A B C D E G H I J K L M : Int) (N : Bool) (O : Int) (P : ByteArray) (Q R : Int) (T : ByteArray) (U V W : Int) (Y : ByteArray) (c : Option Addr) (o : Nat) (e : List UInt8) (Z aa ab ac ad : Int) (ae : Bool) (n : Int) (af : ByteArray) (ag ah : Int) (ai : ByteArray) (aj ak : Int) (d : Option Addr) (p : Nat) (f : List UInt8) (al : Int) (b : Option Addr) (a : Nat) (a9 ca cb b8 b9 cc cd b6 b7 ce bd be bf bg bh bi bj bk bl bm bn bo bp : Int) (bq : Bool) (br : Int) (bs : ByteArray) (bt bu : Int) (bv : ByteArray) (bw bx bz : Int) (b0 : ByteArray) (b1 b2 b3 : Int) (cf : 1 ≤ a) {y : R___primary_Machine__Step_2} (hm : m___primary_Machine__Step_2 F ba bb bc a5 an ao ap q r aq ar au av aw ax s m A B C D E G H I J K L M N O P Q R T U V W Y e Z aa ab ac ad ae n af ag ah ai aj ak f al a9 ca cb b8 b9 cc cd b6 b7 ce bd be bf bg bh bi bj bk bl bm bn bo bp bq br bs bt bu bv bw bx bz b0 b1 b2 b3 = some y) : CallG Tryz.prog 16 #[pA a8 0,.agg ((kc82 ca cb b8 b9 cc cd b6 b7 ce bd be bf bg bh bi bj bk bl bm bn bo bp bq br bs bt bu bv bw bx bz b0 b1 b2 b3)).toArray] (X := Option Addr × Nat) (fun ⟨x0,x1⟩ => .agg ((kc30 x0 x1)).toArray) [.osl b a 3 1 [[vI 1]],.cells am 104 (kc40 ap q r aq ar au av aw ax s m A B C D E G H I J K L M N O P Q R T U V W Y c e.length o Z aa ab ac ad ae n af ag ah ai aj ak d f.length p al b a),.cells a8 80 (kc39 u a6 ba bb bc z a5.length a7 j an.length ay k ao.length az l a3 am a9)] [.rd u 1 [[vI 1]],r31 z a5,r94 j an,r91 k ao,.rd l 46 [],r5 c e,r5 d f] (fun ⟨x0,x1⟩ => [.osl x0 x1 65 46 [(kc29 q r s m y.a0 y.a1 y.a2 n)],.osl b a 3 1 [],.cells am 104 (kc83 ap q r aq ar au av aw ax s m A B C D E G H I J K L M N O P Q R T U V W Y c e.length o Z aa ab ac ad ae n af ag ah ai aj ak d f.length p al b a),.cells a8 80 (kc11 u a6 ba bb bc z a5.length a7 j an.length ay k ao.length az l a3 a9)]) := by
 rw [m___primary_Machine__Step_2] at hm
 refine GS.st Tryz.func16 Tryz.ntmps16 (fun w => ?_)
 refine GS.seq ?_
 refine GS.dg [1] (fun a4 => [(3,pA ((a4 0).x) 0),(4,pA ((a4 1).x) 0)]) [] (fun a4 => [(11,.cells ((a4 0).x) 65 (kc82 ca cb b8 b9 cc cd b6 b7 ce bd be bf bg bh bi bj bk bl bm bn bo bp bq br bs bt bu bv bw bx bz b0 b1 b2 b3)),(12,.cells ((a4 1).x) 68 (kc13))]) [(0,hN 11),(1,hN 12)] (fun a4 => []) (fun a4 => ?_)
 refine GS.seq ?_
 refine GS.seq ?_
 refine grd_elim hm (fun g3 hm => ?_)
 refine GS.yg [] [(32,.bool (!(S_api_Pg.beq (S_api_Pg.mk b6 b7) (S_api_Pg.mk 1 0))))] [] [] [(6,hL 3 0 0),(11,hL 11 0 0),(15,hL 3 0 0),(17,hA (.eq)),(19,hP (.bool false)),(21,hL 11 0 0),(25,hL 3 0 0),(26,hA (.eq))] [qE a8,qE ((a4 0).x),qE a8,⟨(bool_eq (g3) : ((.bool (!(S_api_Node.beq (S_api_Node.mk b8 b9) (S_api_Node.mk 2 0)))) : Value) = .bool false)⟩,qE ((a4 0).x),qE a8] ?_
 refine grd_elim hm (fun g4 hm => ?_)
 refine GS.cd (!(S_api_Pg.beq (S_api_Pg.mk b6 b7) (S_api_Pg.mk 1 0))) (fun h5 => absb h5 (g4)) (fun _ => ?_)
 refine GS.skip ?_
 refine GS.seq ?_
 refine GS.seq ?_
 refine GS.eg [32] [(35,vI 33)] [] [] [(1,hL 11 0 0)] [qE ((a4 0).x)] ?_
 refine GS.block ?_
 refine GS.seq ?_
 refine GS.ez [] [(36,.bool false)] [] ?_
 refine GS.cF ?_
 refine GS.seq ?_
 refine GS.seq ?_
 refine GS.ez [36] [(41,.bool true)] [] ?_
 refine GS.cT ?_
 refine GS.skip ?_
 refine GS.cT ?_
 refine GS.seq ?_
 refine bnd_elim hm (fun cg ch hm => ?_)
 refine GS.open_ ?_
 refine GR.eu 2 [0,3,35,41] [(44,pA a8 0),(45,.agg ((kc82 ca cb b8 b9 cc cd b6 b7 ce bd be bf bg bh bi bj bk bl bm bn bo bp bq br bs bt bu bv bw bx bz b0 b1 b2 b3)).toArray)] [11] [] [(1,hL 11 0 0)] [qE ((a4 0).x)] ?_
 refine GR.cg (w___primary_Machine__acked F a8 u a6 ba bb bc z a7 a5 j ay an k az ao l a3 am ap q r aq ar au av aw ax s m A B C D E G H I J K L M N O P Q R T U V W Y c o e Z aa ab ac ad ae n af ag ah ai aj ak d p f al b a a9 ca cb b8 b9 cc cd b6 b7 ce bd be bf bg bh bi bj bk bl bm bn bo bp bq br bs bt bu bv bw bx bz b0 b1 b2 b3 cf ch) [1,2,3] [13,1,2,3] [44,45] [] ⟨rR 4,rR 5,rR 6,rR 7,rR 8,rR 9,rR 10,trivial⟩ ?_
 rintro ⟨b4,b5⟩
 refine GR.eu 1 [46] [] [] [(12,.cells ((a4 1).x) 68 (kc30 b4 b5))] [(3,hS 12)] [qE ((a4 1).x),qE true] ?_
 refine GR.dm ?_
 have hy := Option.some.inj hm
 subst hy
 exact GS.rv [12] [qE ((a4 1).x)] Tryz.func16 ⟨b4,b5⟩ [13,1,2,3]

theorem w___primary_Machine__Idle_2 (F p : Nat) (f g h i j k l m n o a b c d e : Value) {y : Unit} (hm : m___primary_Machine__Idle_2 F = some y) : CallG Tryz.prog 20 #[pA p 0] (X := Unit) (fun (_ : Unit) => .bool true) [] [.rd (some ⟨p,0,none⟩) 17 [(kc87 f g h i j k l m n o a b c d e)]] (fun (_ : Unit) => []) := by
 rw [m___primary_Machine__Idle_2] at hm
 refine GS.st Tryz.func20 Tryz.ntmps20 (fun w => ?_)
 refine GS.seq ?_
 refine GS.ez [] [] [] ?_
 refine GS.seq ?_
 refine GS.eg [0] [(2,.bool true)] [1] [] [(6,hR 1 0 16 (kc87 f g h i j k l m n o a b c d e)),(12,hR 1 0 13 (kc87 f g h i j k l m n o a b c d e))] [qE p,qE (offs (some ⟨p,0,none⟩) + (0 * 17 + 16)),qE (some (kc87 f g h i j k l m n o a b c d e)),qE p,qE (offs (some ⟨p,0,none⟩) + (0 * 17 + 13)),qE (some (kc87 f g h i j k l m n o a b c d e))] ?_
 have hy := Option.some.inj hm
 subst hy
 exact GS.rv [0] [] Tryz.func20 () []

end Go.Proofs.YtjnbkhnebmlilaaGreat
