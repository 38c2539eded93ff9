/-
 CHAPTER 18o: the functions do what their models say (11).
-/
import Derived.Test.YtjnbkhnebmlilaaGreatE18o
import Derived.Test.YtjnbkhnebmlilaaGreatW18oj
set_option linter.unusedVariables false
set_option linter.unusedSimpArgs false
set_option maxRecDepth 100000
set_option maxHeartbeats 8000000
namespace Go.Proofs.YtjnbkhnebmlilaaGreat
open Go Go.RowKit Sx

theorem w___primary_Machine__Step (F af : Nat) (d : Option Addr) (p : Nat) (aw ax ay : Int) (e : Option Addr) (u : Nat) (s : List S_api_Entry) (b : Option Addr) (q : Nat) (k : List S_api_Last) (c : Option Addr) (r : Nat) (l : List S_api_Item) (n : Option Addr) (o : Nat) (C ai aj ak az a4 a5 a6 ao ap A m E G H I J K L M N O P Q : Int) (R : Bool) (T : Int) (U : ByteArray) (V W : Int) (Y : ByteArray) (Z aa ab : Int) (f : ByteArray) (j : Option Addr) (ag : Nat) (B : List UInt8) (ac ad ae : Int) {y : R___primary_Machine__Step} (hm : m___primary_Machine__Step F aw ax ay s k l C ai aj ak az a4 a5 a6 ao ap A m E G H I J K L M N O P Q R T U V W Y Z aa ab f B ac ad ae = some y) : CallG Tryz.prog 16 #[pA af 0,.agg ((kc12 ai aj ak az a4 a5 a6 ao ap A m E G H I J K L M N O P Q R T U V W Y Z aa ab f j B.length ag ac ad ae)).toArray] (X := (Option Addr × Nat × Option Addr × Nat) × (Option Addr × Nat) × (Option Addr × Nat × Option Addr × Nat × Option Addr × Nat × Option Addr × Nat × Option Addr × Nat × Option Addr × Nat × Option Addr × Nat × Option Addr × Nat × Option Addr × Nat × Option Addr × Nat × Nat × Option Addr × Nat × Option Addr × Nat × Option Addr × Nat) × (Option Addr × Nat × Option Addr × Nat × Option Addr × Nat × Option Addr × Nat × Option Addr × Nat × Option Addr × Nat × Option Addr × Nat × Option Addr × Nat × Nat × Option Addr × Nat × Option Addr × Nat) × (Option Addr × Nat × Option Addr × Nat × Nat × Option Addr × Nat × Option Addr × Nat)) (fun (x : (Option Addr × Nat × Option Addr × Nat) × (Option Addr × Nat) × (Option Addr × Nat × Option Addr × Nat × Option Addr × Nat × Option Addr × Nat × Option Addr × Nat × Option Addr × Nat × Option Addr × Nat × Option Addr × Nat × Option Addr × Nat × Option Addr × Nat × Nat × Option Addr × Nat × Option Addr × Nat × Option Addr × Nat) × (Option Addr × Nat × Option Addr × Nat × Option Addr × Nat × Option Addr × Nat × Option Addr × Nat × Option Addr × Nat × Option Addr × Nat × Option Addr × Nat × Nat × Option Addr × Nat × Option Addr × Nat) × (Option Addr × Nat × Option Addr × Nat × Nat × Option Addr × Nat × Option Addr × Nat)) => bif y.t == 0 then (fun ⟨⟨x0,x1,x2,x3⟩,_,_,_,_⟩ => .agg ((kc30 x0 x1)).toArray : (Option Addr × Nat × Option Addr × Nat) × (Option Addr × Nat) × (Option Addr × Nat × Option Addr × Nat × Option Addr × Nat × Option Addr × Nat × Option Addr × Nat × Option Addr × Nat × Option Addr × Nat × Option Addr × Nat × Option Addr × Nat × Option Addr × Nat × Nat × Option Addr × Nat × Option Addr × Nat × Option Addr × Nat) × (Option Addr × Nat × Option Addr × Nat × Option Addr × Nat × Option Addr × Nat × Option Addr × Nat × Option Addr × Nat × Option Addr × Nat × Option Addr × Nat × Nat × Option Addr × Nat × Option Addr × Nat) × (Option Addr × Nat × Option Addr × Nat × Nat × Option Addr × Nat × Option Addr × Nat) → Value) x else bif y.t == 1 then (fun ⟨_,⟨x0,x1⟩,_,_,_⟩ => .agg ((kc13)).toArray : (Option Addr × Nat × Option Addr × Nat) × (Option Addr × Nat) × (Option Addr × Nat × Option Addr × Nat × Option Addr × Nat × Option Addr × Nat × Option Addr × Nat × Option Addr × Nat × Option Addr × Nat × Option Addr × Nat × Option Addr × Nat × Option Addr × Nat × Nat × Option Addr × Nat × Option Addr × Nat × Option Addr × Nat) × (Option Addr × Nat × Option Addr × Nat × Option Addr × Nat × Option Addr × Nat × Option Addr × Nat × Option Addr × Nat × Option Addr × Nat × Option Addr × Nat × Nat × Option Addr × Nat × Option Addr × Nat) × (Option Addr × Nat × Option Addr × Nat × Nat × Option Addr × Nat × Option Addr × Nat) → Value) x else bif y.t == 2 then (fun ⟨_,_,⟨x0,x1,x2,x3,x4,x5,x6,x7,x8,x9,br,bs,bt,bu,bl,a8,an,D,ah,al,am,aq,ar,au,av,a7,a9⟩,_,_⟩ => .agg ((kc51 y.c0 y.c1 y.c2 x0 y.c3.length x1 x2 y.c4.length x3 x4 y.c5.length x5 f y.c6 y.c7 x6 y.c8.length x7 x8 x9)).toArray : (Option Addr × Nat × Option Addr × Nat) × (Option Addr × Nat) × (Option Addr × Nat × Option Addr × Nat × Option Addr × Nat × Option Addr × Nat × Option Addr × Nat × Option Addr × Nat × Option Addr × Nat × Option Addr × Nat × Option Addr × Nat × Option Addr × Nat × Nat × Option Addr × Nat × Option Addr × Nat × Option Addr × Nat) × (Option Addr × Nat × Option Addr × Nat × Option Addr × Nat × Option Addr × Nat × Option Addr × Nat × Option Addr × Nat × Option Addr × Nat × Option Addr × Nat × Nat × Option Addr × Nat × Option Addr × Nat) × (Option Addr × Nat × Option Addr × Nat × Nat × Option Addr × Nat × Option Addr × Nat) → Value) x else bif y.t == 3 then (fun ⟨_,_,_,⟨x0,x1,x2,x3,x4,x5,x6,x7,x8,x9,br,bs,bt,bu,bl,a8,an,D,ah,al,am⟩,_⟩ => .agg ((kc62 y.d0 y.d1 y.d2 x0 y.d3.length x1 x2 y.d4.length x3 x4 y.d5.length x5 y.d6 y.d7 y.d8 y.d9 y.d10 y.d11 x6 x7)).toArray : (Option Addr × Nat × Option Addr × Nat) × (Option Addr × Nat) × (Option Addr × Nat × Option Addr × Nat × Option Addr × Nat × Option Addr × Nat × Option Addr × Nat × Option Addr × Nat × Option Addr × Nat × Option Addr × Nat × Option Addr × Nat × Option Addr × Nat × Nat × Option Addr × Nat × Option Addr × Nat × Option Addr × Nat) × (Option Addr × Nat × Option Addr × Nat × Option Addr × Nat × Option Addr × Nat × Option Addr × Nat × Option Addr × Nat × Option Addr × Nat × Option Addr × Nat × Nat × Option Addr × Nat × Option Addr × Nat) × (Option Addr × Nat × Option Addr × Nat × Nat × Option Addr × Nat × Option Addr × Nat) → Value) x else (fun ⟨_,_,_,_,⟨x0,x1,x2,x3,x4,x5,x6,x7,x8⟩⟩ => .agg ((kc30 x0 x1)).toArray : (Option Addr × Nat × Option Addr × Nat) × (Option Addr × Nat) × (Option Addr × Nat × Option Addr × Nat × Option Addr × Nat × Option Addr × Nat × Option Addr × Nat × Option Addr × Nat × Option Addr × Nat × Option Addr × Nat × Option Addr × Nat × Option Addr × Nat × Nat × Option Addr × Nat × Option Addr × Nat × Option Addr × Nat) × (Option Addr × Nat × Option Addr × Nat × Option Addr × Nat × Option Addr × Nat × Option Addr × Nat × Option Addr × Nat × Option Addr × Nat × Option Addr × Nat × Nat × Option Addr × Nat × Option Addr × Nat) × (Option Addr × Nat × Option Addr × Nat × Nat × Option Addr × Nat × Option Addr × Nat) → Value) x) [.osl n o 65 46 [],.cells af 80 (kc11 d p aw ax ay e s.length u b k.length q c l.length r n o C)] [.rd d 1 [[vI 1]],r31 e s,r94 b k,r91 c l,r5 j B] (fun (x : (Option Addr × Nat × Option Addr × Nat) × (Option Addr × Nat) × (Option Addr × Nat × Option Addr × Nat × Option Addr × Nat × Option Addr × Nat × Option Addr × Nat × Option Addr × Nat × Option Addr × Nat × Option Addr × Nat × Option Addr × Nat × Option Addr × Nat × Nat × Option Addr × Nat × Option Addr × Nat × Option Addr × Nat) × (Option Addr × Nat × Option Addr × Nat × Option Addr × Nat × Option Addr × Nat × Option Addr × Nat × Option Addr × Nat × Option Addr × Nat × Option Addr × Nat × Nat × Option Addr × Nat × Option Addr × Nat) × (Option Addr × Nat × Option Addr × Nat × Nat × Option Addr × Nat × Option Addr × Nat)) => bif y.t == 0 then (fun ⟨⟨x0,x1,x2,x3⟩,_,_,_,_⟩ => [.osl x0 x1 65 46 [(kc29 aj ak A m y.a0 y.a1 y.a2 y.a3)],.osl x2 x3 65 46 [],.cells af 80 (kc11 d p aw ax ay e s.length u b k.length q c l.length r x2 x3 C)] : (Option Addr × Nat × Option Addr × Nat) × (Option Addr × Nat) × (Option Addr × Nat × Option Addr × Nat × Option Addr × Nat × Option Addr × Nat × Option Addr × Nat × Option Addr × Nat × Option Addr × Nat × Option Addr × Nat × Option Addr × Nat × Option Addr × Nat × Nat × Option Addr × Nat × Option Addr × Nat × Option Addr × Nat) × (Option Addr × Nat × Option Addr × Nat × Option Addr × Nat × Option Addr × Nat × Option Addr × Nat × Option Addr × Nat × Option Addr × Nat × Option Addr × Nat × Nat × Option Addr × Nat × Option Addr × Nat) × (Option Addr × Nat × Option Addr × Nat × Nat × Option Addr × Nat × Option Addr × Nat) → List Ent) x else bif y.t == 1 then (fun ⟨_,⟨x0,x1⟩,_,_,_⟩ => [.osl x0 x1 65 46 [],.cells af 80 (kc11 d p aw ax ay e s.length u b k.length q c l.length r x0 x1 C)] : (Option Addr × Nat × Option Addr × Nat) × (Option Addr × Nat) × (Option Addr × Nat × Option Addr × Nat × Option Addr × Nat × Option Addr × Nat × Option Addr × Nat × Option Addr × Nat × Option Addr × Nat × Option Addr × Nat × Option Addr × Nat × Option Addr × Nat × Nat × Option Addr × Nat × Option Addr × Nat × Option Addr × Nat) × (Option Addr × Nat × Option Addr × Nat × Option Addr × Nat × Option Addr × Nat × Option Addr × Nat × Option Addr × Nat × Option Addr × Nat × Option Addr × Nat × Nat × Option Addr × Nat × Option Addr × Nat) × (Option Addr × Nat × Option Addr × Nat × Nat × Option Addr × Nat × Option Addr × Nat) → List Ent) x else bif y.t == 2 then (fun ⟨_,_,⟨x0,x1,x2,x3,x4,x5,x6,x7,x8,x9,br,bs,bt,bu,bl,a8,an,D,ah,al,am,aq,ar,au,av,a7,a9⟩,_,_⟩ => [o31 x0 x1 y.c3,o94 x2 x3 y.c4,o91 x4 x5 y.c5,o5 x6 x7 y.c8,o5 br bs y.c11,.osl x8 x9 65 46 [(kc50 y.c6 y.c7 y.c9 y.c10 f A m f y.c6 y.c7 br y.c11.length bs)],o31 bt bu y.c15,o94 bl a8 y.c16,o91 an D y.c17,.osl ah al 65 46 [],o5 aq ar y.c18,o5 au av y.c19,.osl a7 a9 3 1 [[vI 1]],.cells am 104 (kc38 ai aj ak az a4 a5 a6 ao ap A m E G H I J K L M N O P Q R T U V W Y Z aa ab f aq y.c18.length ar ac ad ae y.c6 y.c7 y.c9 y.c10 f A m f y.c6 y.c7 au y.c19.length av a7 a9),.cells af 80 (kc39 d p y.c12 y.c13 y.c14 bt y.c15.length bu bl y.c16.length a8 an y.c17.length D ah al am C)] : (Option Addr × Nat × Option Addr × Nat) × (Option Addr × Nat) × (Option Addr × Nat × Option Addr × Nat × Option Addr × Nat × Option Addr × Nat × Option Addr × Nat × Option Addr × Nat × Option Addr × Nat × Option Addr × Nat × Option Addr × Nat × Option Addr × Nat × Nat × Option Addr × Nat × Option Addr × Nat × Option Addr × Nat) × (Option Addr × Nat × Option Addr × Nat × Option Addr × Nat × Option Addr × Nat × Option Addr × Nat × Option Addr × Nat × Option Addr × Nat × Option Addr × Nat × Nat × Option Addr × Nat × Option Addr × Nat) × (Option Addr × Nat × Option Addr × Nat × Nat × Option Addr × Nat × Option Addr × Nat) → List Ent) x else bif y.t == 3 then (fun ⟨_,_,_,⟨x0,x1,x2,x3,x4,x5,x6,x7,x8,x9,br,bs,bt,bu,bl,a8,an,D,ah,al,am⟩,_⟩ => [o31 x0 x1 y.d3,o94 x2 x3 y.d4,o91 x4 x5 y.d5,.osl x6 x7 65 46 [(kc61 y.d12 y.d13 y.d14 y.d15 f A m)],o31 x8 x9 y.d19,o94 br bs y.d20,o91 bt bu y.d21,.osl bl a8 65 46 [],o5 D ah y.d22,.osl al am 3 1 [[vI 1]],.cells an 104 (kc36 ai aj ak az a4 a5 a6 ao ap A m E G H I J K L M N O P Q R T U V W Y Z aa ab f D y.d22.length ah ac ad ae y.d12 y.d13 y.d14 y.d15 f A m al am),.cells af 80 (kc39 d p y.d16 y.d17 y.d18 x8 y.d19.length x9 br y.d20.length bs bt y.d21.length bu bl a8 an C)] : (Option Addr × Nat × Option Addr × Nat) × (Option Addr × Nat) × (Option Addr × Nat × Option Addr × Nat × Option Addr × Nat × Option Addr × Nat × Option Addr × Nat × Option Addr × Nat × Option Addr × Nat × Option Addr × Nat × Option Addr × Nat × Option Addr × Nat × Nat × Option Addr × Nat × Option Addr × Nat × Option Addr × Nat) × (Option Addr × Nat × Option Addr × Nat × Option Addr × Nat × Option Addr × Nat × Option Addr × Nat × Option Addr × Nat × Option Addr × Nat × Option Addr × Nat × Nat × Option Addr × Nat × Option Addr × Nat) × (Option Addr × Nat × Option Addr × Nat × Nat × Option Addr × Nat × Option Addr × Nat) → List Ent) x else (fun ⟨_,_,_,_,⟨x0,x1,x2,x3,x4,x5,x6,x7,x8⟩⟩ => [.osl x0 x1 65 46 [(kc66 y.e0)],.osl x2 x3 65 46 [],o5 x5 x6 y.e1,.osl x7 x8 3 1 [[vI 1]],.cells x4 104 (kc63 ai aj ak az a4 a5 a6 ao ap A m E G H I J K L M N O P Q R T U V W Y Z aa ab f x5 y.e1.length x6 ac ad ae y.e0 x7 x8),.cells af 80 (kc39 d p aw ax ay e s.length u b k.length q c l.length r x2 x3 x4 y.e0)] : (Option Addr × Nat × Option Addr × Nat) × (Option Addr × Nat) × (Option Addr × Nat × Option Addr × Nat × Option Addr × Nat × Option Addr × Nat × Option Addr × Nat × Option Addr × Nat × Option Addr × Nat × Option Addr × Nat × Option Addr × Nat × Option Addr × Nat × Nat × Option Addr × Nat × Option Addr × Nat × Option Addr × Nat) × (Option Addr × Nat × Option Addr × Nat × Option Addr × Nat × Option Addr × Nat × Option Addr × Nat × Option Addr × Nat × Option Addr × Nat × Option Addr × Nat × Nat × Option Addr × Nat × Option Addr × Nat) × (Option Addr × Nat × Option Addr × Nat × Nat × Option Addr × Nat × Option Addr × Nat) → List Ent) x) := by
 rw [m___primary_Machine__Step] at hm
 refine GS.st Tryz.func16 Tryz.ntmps16 (fun w => ?_)
 refine GS.seq ?_
 refine GS.dg [1] (fun z => [(3,pA ((z 0).x) 0),(4,pA ((z 1).x) 0)]) [] (fun z => [(8,.cells ((z 0).x) 65 (kc12 ai aj ak az a4 a5 a6 ao ap A m E G H I J K L M N O P Q R T U V W Y Z aa ab f j B.length ag ac ad ae)),(9,.cells ((z 1).x) 68 (kc13))]) [(0,hN 8),(1,hN 9)] (fun z => []) (fun z => ?_)
 refine GS.seq ?_
 refine GS.seq ?_
 refine grd_elim hm (fun g3 hm => ?_)
 refine GS.yg [] [(32,.bool (!(S_api_Pg.beq (S_api_Pg.mk ao ap) (S_api_Pg.mk 1 0))))] [] [] [(6,hL 2 0 0),(11,hL 8 0 0),(15,hL 2 0 0),(17,hA (.eq)),(19,hP (.bool false)),(21,hL 8 0 0),(25,hL 2 0 0),(26,hA (.eq))] [qE af,qE ((z 0).x),qE af,⟨(bool_eq (g3) : ((.bool (!(S_api_Node.beq (S_api_Node.mk az a4) (S_api_Node.mk 2 0)))) : Value) = .bool false)⟩,qE ((z 0).x),qE af] ?_
 refine grd_elim hm (fun g4 hm => ?_)
 refine GS.cd (!(S_api_Pg.beq (S_api_Pg.mk ao ap) (S_api_Pg.mk 1 0))) (fun h5 => absb h5 (g4)) (fun _ => ?_)
 refine GS.skip ?_
 refine GS.seq ?_
 refine GS.seq ?_
 refine GS.eg [32] [(35,vI ai)] [] [] [(1,hL 8 0 0)] [qE ((z 0).x)] ?_
 refine GS.block ?_
 refine GS.seq ?_
 refine GS.ez [] [(36,.bool (ai == 30))] [] ?_
 refine grd_elim hm (fun g8 hm => ?_)
 refine GS.cd (ai == 30) (fun _ => ?_) (fun h9 => absb (g8) h9)
 refine GS.seq ?_
 refine bnd_elim hm (fun a bw hm => ?_)
 refine br_elim hm (fun bv hm => ?_) (fun bv hm => ?_)
 ·skip
  refine GS.open_ ?_
  refine GR.eu 2 [0,3,35,36] [(38,pA af 0),(39,.agg ((kc12 ai aj ak az a4 a5 a6 ao ap A m E G H I J K L M N O P Q R T U V W Y Z aa ab f j B.length ag ac ad ae)).toArray)] [8] [] [(1,hL 8 0 0)] [qE ((z 0).x)] ?_
  refine GR.cg (CallG.fT bv (w___primary_Machine__request F af d p aw ax ay e u s b q k c r l n o C ai aj ak az a4 a5 a6 ao ap A m E G H I J K L M N O P Q R T U V W Y Z aa ab f j ag B ac ad ae bw)) [1,2] [10,11,2] [38,39] [] ⟨rR 3,rR 4,rR 5,rR 6,rR 7,trivial⟩ ?_
  rintro ⟨⟨bl,a8,an,D⟩,_,_,_,_⟩
  refine GR.eu 1 [40] [] [7] [(9,.cells ((z 1).x) 68 (kc30 bl a8))] [(3,hS 9)] [qE ((z 1).x),qE true] ?_
  refine GR.dm ?_
  have hy := Option.some.inj hm
  subst hy
  exact GS.rv [9] [qE ((z 1).x)] Tryz.func16 ⟨⟨bl,a8,an,D⟩,⟨none,0⟩,⟨none,0,none,0,none,0,none,0,none,0,none,0,none,0,none,0,none,0,none,0,0,none,0,none,0,none,0⟩,⟨none,0,none,0,none,0,none,0,none,0,none,0,none,0,none,0,0,none,0,none,0⟩,⟨none,0,none,0,0,none,0,none,0⟩⟩ [10,11,2]
 ·skip
  refine br_elim hm (fun bx hm => ?_) (fun bx hm => ?_)
  ·skip
   refine GS.open_ ?_
   refine GR.eu 2 [0,3,35,36] [(38,pA af 0),(39,.agg ((kc12 ai aj ak az a4 a5 a6 ao ap A m E G H I J K L M N O P Q R T U V W Y Z aa ab f j B.length ag ac ad ae)).toArray)] [8] [] [(1,hL 8 0 0)] [qE ((z 0).x)] ?_
   refine GR.cg (CallG.fT bx (CallG.fF bv (w___primary_Machine__request F af d p aw ax ay e u s b q k c r l n o C ai aj ak az a4 a5 a6 ao ap A m E G H I J K L M N O P Q R T U V W Y Z aa ab f j ag B ac ad ae bw))) [1,2] [10,2] [38,39] [] ⟨rR 3,rR 4,rR 5,rR 6,rR 7,trivial⟩ ?_
   rintro ⟨_,⟨a8,an⟩,_,_,_⟩
   refine GR.eu 1 [40] [] [7] [] [(3,hS 9)] [qE ((z 1).x),qE true] ?_
   refine GR.dm ?_
   have hy := Option.some.inj hm
   subst hy
   exact GS.rv [9] [qE ((z 1).x)] Tryz.func16 ⟨⟨none,0,none,0⟩,⟨a8,an⟩,⟨none,0,none,0,none,0,none,0,none,0,none,0,none,0,none,0,none,0,none,0,0,none,0,none,0,none,0⟩,⟨none,0,none,0,none,0,none,0,none,0,none,0,none,0,none,0,0,none,0,none,0⟩,⟨none,0,none,0,0,none,0,none,0⟩⟩ [10,2]
  ·skip
   refine br_elim hm (fun bz hm => ?_) (fun bz hm => ?_)
   ·skip
    refine GS.open_ ?_
    refine GR.eu 2 [0,3,35,36] [(38,pA af 0),(39,.agg ((kc12 ai aj ak az a4 a5 a6 ao ap A m E G H I J K L M N O P Q R T U V W Y Z aa ab f j B.length ag ac ad ae)).toArray)] [8] [] [(1,hL 8 0 0)] [qE ((z 0).x)] ?_
    refine GR.cg (CallG.fT bz (CallG.fF bx (CallG.fF bv (w___primary_Machine__request F af d p aw ax ay e u s b q k c r l n o C ai aj ak az a4 a5 a6 ao ap A m E G H I J K L M N O P Q R T U V W Y Z aa ab f j ag B ac ad ae bw)))) [1,2] [10,11,12,13,15,14,16,17,18,19,21,22,23,20,2] [38,39] [] ⟨rR 3,rR 4,rR 5,rR 6,rR 7,trivial⟩ ?_
    rintro ⟨_,_,⟨an,D,ah,al,am,aq,ar,au,av,a7,a9,ba,bb,bc,bd,be,bf,bg,bh,bi,bj,bk,bm,bn,bo,bp,bq⟩,_,_⟩
    refine GR.eu 1 [40] [] [4,5,6,7] [(9,.cells ((z 1).x) 68 (kc51 a.c0 a.c1 a.c2 an a.c3.length D ah a.c4.length al am a.c5.length aq f a.c6 a.c7 ar a.c8.length au av a7))] [(3,hS 9)] [qE ((z 1).x),qE true] ?_
    refine GR.dm ?_
    have hy := Option.some.inj hm
    subst hy
    exact GS.rv [9] [qE ((z 1).x)] Tryz.func16 ⟨⟨none,0,none,0⟩,⟨none,0⟩,⟨an,D,ah,al,am,aq,ar,au,av,a7,a9,ba,bb,bc,bd,be,bf,bg,bh,bi,bj,bk,bm,bn,bo,bp,bq⟩,⟨none,0,none,0,none,0,none,0,none,0,none,0,none,0,none,0,0,none,0,none,0⟩,⟨none,0,none,0,0,none,0,none,0⟩⟩ [10,11,12,13,15,14,16,17,18,19,21,22,23,20,2]
   ·skip
    refine br_elim hm (fun b0 hm => ?_) (fun b0 hm => ?_)
    ·skip
     refine GS.open_ ?_
     refine GR.eu 2 [0,3,35,36] [(38,pA af 0),(39,.agg ((kc12 ai aj ak az a4 a5 a6 ao ap A m E G H I J K L M N O P Q R T U V W Y Z aa ab f j B.length ag ac ad ae)).toArray)] [8] [] [(1,hL 8 0 0)] [qE ((z 0).x)] ?_
     refine GR.cg (CallG.fT b0 (CallG.fF bz (CallG.fF bx (CallG.fF bv (w___primary_Machine__request F af d p aw ax ay e u s b q k c r l n o C ai aj ak az a4 a5 a6 ao ap A m E G H I J K L M N O P Q R T U V W Y Z aa ab f j ag B ac ad ae bw))))) [1,2] [10,11,12,13,14,15,16,17,19,20,18,2] [38,39] [] ⟨rR 3,rR 4,rR 5,rR 6,rR 7,trivial⟩ ?_
     rintro ⟨_,_,_,⟨D,ah,al,am,aq,ar,au,av,a7,a9,ba,bb,bc,bd,be,bf,bg,bh,bi,bj,bk⟩,_⟩
     refine GR.eu 1 [40] [] [4,5,6,7] [(9,.cells ((z 1).x) 68 (kc62 a.d0 a.d1 a.d2 D a.d3.length ah al a.d4.length am aq a.d5.length ar a.d6 a.d7 a.d8 a.d9 a.d10 a.d11 au av))] [(3,hS 9)] [qE ((z 1).x),qE true] ?_
     refine GR.dm ?_
     have hy := Option.some.inj hm
     subst hy
     exact GS.rv [9] [qE ((z 1).x)] Tryz.func16 ⟨⟨none,0,none,0⟩,⟨none,0⟩,⟨none,0,none,0,none,0,none,0,none,0,none,0,none,0,none,0,none,0,none,0,0,none,0,none,0,none,0⟩,⟨D,ah,al,am,aq,ar,au,av,a7,a9,ba,bb,bc,bd,be,bf,bg,bh,bi,bj,bk⟩,⟨none,0,none,0,0,none,0,none,0⟩⟩ [10,11,12,13,14,15,16,17,19,20,18,2]
    ·skip
     refine GS.open_ ?_
     refine GR.eu 2 [0,3,35,36] [(38,pA af 0),(39,.agg ((kc12 ai aj ak az a4 a5 a6 ao ap A m E G H I J K L M N O P Q R T U V W Y Z aa ab f j B.length ag ac ad ae)).toArray)] [8] [] [(1,hL 8 0 0)] [qE ((z 0).x)] ?_
     refine GR.cg (CallG.fF b0 (CallG.fF bz (CallG.fF bx (CallG.fF bv (w___primary_Machine__request F af d p aw ax ay e u s b q k c r l n o C ai aj ak az a4 a5 a6 ao ap A m E G H I J K L M N O P Q R T U V W Y Z aa ab f j ag B ac ad ae bw))))) [1,2] [10,11,13,14,12,2] [38,39] [] ⟨rR 3,rR 4,rR 5,rR 6,rR 7,trivial⟩ ?_
     rintro ⟨_,_,_,_,⟨D,ah,al,am,aq,ar,au,av,a7⟩⟩
     refine GR.eu 1 [40] [] [7] [(9,.cells ((z 1).x) 68 (kc30 D ah))] [(3,hS 9)] [qE ((z 1).x),qE true] ?_
     refine GR.dm ?_
     have hy := Option.some.inj hm
     subst hy
     exact GS.rv [9] [qE ((z 1).x)] Tryz.func16 ⟨⟨none,0,none,0⟩,⟨none,0⟩,⟨none,0,none,0,none,0,none,0,none,0,none,0,none,0,none,0,none,0,none,0,0,none,0,none,0,none,0⟩,⟨none,0,none,0,none,0,none,0,none,0,none,0,none,0,none,0,0,none,0,none,0⟩,⟨D,ah,al,am,aq,ar,au,av,a7⟩⟩ [10,11,13,14,12,2]

theorem w___primary_Machine__Idle (F a6 : Nat) (g h i j k l m n o p b c d : Value) (a : Nat) (aw ax ay az a0 a1 a2 a3 a4 a5 q r s t u v x z A B C D E G H I J K L M N O P Q R T U V W Y Z aa ab ac ad ae af ag ah ai aj ak al am an ao ap aq ar au av e f : Value) {y : Unit} (hm : m___primary_Machine__Idle F = some y) : CallG Tryz.prog 20 #[pA a6 0] (X := Unit) (fun (_ : Unit) => .bool false) [] [.rd (some ⟨a,0,none⟩) 61 [(kc80 aw ax ay az a0 a1 a2 a3 a4 a5 q r s t u v x z A B C D E G H I J K L M N O P Q R T U V W Y Z aa ab ac ad ae af ag ah ai aj ak al am an ao ap aq ar au av)],.rd (some ⟨a6,0,none⟩) 17 [(kc81 g h i j k l m n o p b c d a e f)]] (fun (_ : Unit) => []) := by
 rw [m___primary_Machine__Idle] at hm
 refine GS.st Tryz.func20 Tryz.ntmps20 (fun w => ?_)
 refine GS.seq ?_
 refine GS.ez [] [] [] ?_
 refine GS.seq ?_
 refine GS.eg [0] [(2,.bool false)] [1,2] [] [(6,hR 2 0 16 (kc81 g h i j k l m n o p b c d a e f)),(12,hR 2 0 13 (kc81 g h i j k l m n o p b c d a e f))] [qE a6,qE (offs (some ⟨a6,0,none⟩) + (0 * 17 + 16)),qE (some (kc81 g h i j k l m n o p b c d a e f)),qE a6,qE (offs (some ⟨a6,0,none⟩) + (0 * 17 + 13)),qE (some (kc81 g h i j k l m n o p b c d a e f))] ?_
 have hy := Option.some.inj hm
 subst hy
 exact GS.rv [0] [] Tryz.func20 () []

theorem w_slices_Index___int_int__2 (F : Nat) (a : Option Addr) (b : Nat) (a1 : Int) {y : Unit} (hm : m_slices_Index___int_int__2 F a1 = some y) : CallG Tryz.prog 60 #[.slice a 1 b,vI a1] (X := Unit) (fun (_ : Unit) => vI 0) [] [.rd a 1 [[vI 1]]] (fun (_ : Unit) => []) := by
 rw [m_slices_Index___int_int__2] at hm
 refine GS.st Tryz.func60 Tryz.ntmps60 (fun w => ?_)
 refine GS.seq ?_
 refine GS.ez [] [] [] ?_
 refine GS.seq ?_
 refine GS.seq ?_
 refine GS.ez [] [(7,vI 1),(8,vI 0)] [] ?_
 refine GS.block ?_
 refine GS.loop ?_
 refine GS.seq ?_
 refine GS.ez [] [(9,.bool true)] [] ?_
 refine GS.seq ?_
 refine GS.cT ?_
 refine GS.skip ?_
 refine GS.seq ?_
 refine GS.block ?_
 refine GS.seq ?_
 refine GS.ez [9] [(5,vI 0)] [] ?_
 refine GS.seq ?_
 refine GS.eg [] [(16,.bool (a1 == 1))] [] [] [(3,hA (.idx 1 0)),(4,hR 1 0 0 [vI 1])] [qE a,qE (([[vI 1]] : List (List Value)).length),qE (0 : Int),⟨((Nat.le_of_ble_eq_true rfl) : 0 < 1)⟩,qE (blk a),qE (offs a + 0 * 1),qE (some ([vI 1] : List Value))] ?_
 refine grd_elim hm (fun g6 hm => ?_)
 refine GS.cd (a1 == 1) (fun _ => ?_) (fun h7 => absb (g6) h7)
 refine GS.seq ?_
 refine GS.eg [0,1,5,7,8,16] [(4,vI 0)] [1] [] [] [] ?_
 have hy := Option.some.inj hm
 subst hy
 exact GS.rv [0] [] Tryz.func60 () []

theorem w_slices_Delete___int_int_ (F : Nat) (c : Option Addr) (b : Nat) (d : 1 ≤ b) {y : Unit} (hm : m_slices_Delete___int_int_ F = some y) : CallG Tryz.prog 68 #[.slice c 1 b,vI 0,vI 1] (X := Unit) (fun (_ : Unit) => .slice c 0 b) [.osl c b 3 1 [[vI 1]]] [] (fun (_ : Unit) => [.osl c b 3 1 []]) := by
 rw [m_slices_Delete___int_int_] at hm
 refine GS.st Tryz.func68 Tryz.ntmps68 (fun w => ?_)
 refine GS.seq ?_
 refine GS.ez [] [] [] ?_
 refine GS.seq ?_
 refine GS.eg [] [] [] [] [(5,{ act := .cut 0 1 1,sp := some (.slice (cutOb c 0 1 1) 1 1) })] [qE (0 : Int),qE (1 : Int),qE (1 : Int),⟨((Nat.le_of_ble_eq_true rfl) : 0 ≤ 1)⟩,⟨((Nat.le_of_ble_eq_true rfl) : 1 ≤ 1)⟩,⟨d⟩,⟨((by intro h; first | rfl | cases h) : (some (Operand.tmp 10) : Option Operand) = none → (some (Operand.tmp 12) : Option Operand) = none)⟩,qE ((.slice (if 1 = 0 then c else (c).map (fun a => a.add (0 * 1))) (1 - 0) (1 - 0)) : Value)] ?_
 refine GS.seq ?_
 refine GS.seq ?_
 refine GS.ez [] [(16,.bool false)] [] ?_
 refine GS.cF ?_
 refine GS.skip ?_
 refine GS.seq ?_
 refine GS.ez [16] [(7,vI 1)] [] ?_
 refine GS.seq ?_
 refine GS.xg [1,2] (fun e => [(0,.slice c 0 b)]) [] (fun e => [(1,.osl c b 3 1 (([[vI 1]] : List (List Value)).take 0 ++ ([[vI 1]] : List (List Value)).drop 1))]) [(2,{ act := .cut 0 0 b,sp := some (.slice c 0 b) }),(5,{ act := .cut 1 1 b,sp := some (.slice (cutOb c 1 b 1) 0 (b - 1)) }),(6,{ act := .appSelf 0 1 b,key := some 1,sp := some (.slice c 0 b) })] (fun e => [qE 0,qE (0 : Int),qE b,⟨((Nat.le_of_ble_eq_true rfl) : 0 ≤ 0)⟩,⟨((Nat.le_trans (Nat.le_of_ble_eq_true rfl : 0 ≤ 1) d) : 0 ≤ b)⟩,⟨((Nat.le_refl _) : b ≤ b)⟩,⟨((by intro h; first | rfl | cases h) : (some (Operand.tmp 21) : Option Operand) = none → (none : Option Operand) = none)⟩,⟨(cut_zero _ _ _ _ : (.slice (if b = 0 then c else (c).map (fun a => a.add (0 * 1))) (0 - 0) (b - 0) : Value) = .slice c 0 b)⟩,qE (1 : Int),qE 1,qE b,⟨((Nat.le_of_ble_eq_true rfl) : 1 ≤ 1)⟩,⟨d⟩,⟨((Nat.le_refl _) : b ≤ b)⟩,⟨((by intro h; first | rfl | cases h) : (none : Option Operand) = none → (none : Option Operand) = none)⟩,qE ((.slice (if b = 1 then c else (c).map (fun a => a.add (1 * 1))) (1 - 1) (b - 1)) : Value),qE c,qE b,qE 0,⟨((Nat.le_of_ble_eq_true rfl) : 0 ≤ ([[vI 1]] : List (List Value)).length)⟩,⟨((Nat.le_of_ble_eq_true rfl) : 1 ≤ ([[vI 1]] : List (List Value)).length)⟩,⟨d⟩,qE (cutOb c 1 b 1),qE (([[vI 1]] : List (List Value)).length - 1),⟨((show 0 * (8 + 1) ≤ 70368744177664 by decide) : (0 + (([[vI 1]] : List (List Value)).length - 1)) * (8 + 1) ≤ 70368744177664)⟩,qE true,⟨((show 0 ≤ b from (Nat.le_trans (Nat.le_of_ble_eq_true rfl : 0 ≤ 1) d)) : 0 + (([[vI 1]] : List (List Value)).length - 1) ≤ b)⟩,qE ((.slice c (0 + (([[vI 1]] : List (List Value)).length - 1)) b) : Value)]) (fun e => ?_)
 refine GS.ce 1 (fun rr : List (List Value) => .osl c b 3 1 rr) (show ([[vI 1]] : List (List Value)).take 0 ++ ([[vI 1]] : List (List Value)).drop 1 = ([] : List (List Value)) from rfl) ?_
 refine GS.seq ?_
 refine GS.eg [7] [] [] [] [(4,{ act := .cut 0 1 b,sp := some (.slice (cutOb c 0 b 1) 1 (b - 0)) }),(5,hK (.clearS 0 b) 1)] [qE (0 : Int),qE (1 : Int),qE b,⟨((Nat.le_of_ble_eq_true rfl) : 0 ≤ 1)⟩,⟨d⟩,⟨((Nat.le_refl _) : b ≤ b)⟩,⟨((by intro h; first | rfl | cases h) : (some (Operand.tmp 30) : Option Operand) = none → (none : Option Operand) = none)⟩,qE ((.slice (if b = 0 then c else (c).map (fun a => a.add (0 * 1))) (1 - 0) (b - 0)) : Value),qE (cutOb c 0 b 1),⟨((Nat.le_of_ble_eq_true rfl) : ([] : List (List Value)).length ≤ 0)⟩,⟨((show 1 ≤ b from d) : 0 + (1) ≤ b)⟩,⟨((Nat.le_refl _) : b ≤ b)⟩] ?_
 refine GS.seq ?_
 refine GS.ez [0] [(6,.slice c 0 b)] [] ?_
 have hy := Option.some.inj hm
 subst hy
 exact GS.rv [0] [] Tryz.func68 () [1]

end Go.Proofs.YtjnbkhnebmlilaaGreat
