/-
 CHAPTER 18o: the functions do what their models say (9).
-/
import Derived.Test.YtjnbkhnebmlilaaGreatE18o
import Derived.Test.YtjnbkhnebmlilaaGreatW18oa
import Derived.Test.YtjnbkhnebmlilaaGreatW18og
import Derived.Test.YtjnbkhnebmlilaaGreatW18oh
set_option linter.unusedVariables false
set_option linter.unusedSimpArgs false
set_option maxRecDepth 100000
set_option maxHeartbeats 8000000
namespace Go.Proofs.YtjnbkhnebmlilaaGreat
open Go Go.RowKit Sx

theorem w___primary_Machine__begin (F av : Nat) (z : Option Addr) (au : Nat) (az a4 a5 : Int) (af : Option Addr) (ax : Nat) (aw : List S_api_Entry) (s : Option Addr) (aq : Nat) (ao : List S_api_Last) (u : Option Addr) (ar : Nat) (ap : List S_api_Item) (n : Option Addr) (b : Nat) (ag q r ah ai aj ak al am m j A B C D G H J L O P Q R : Int) (T : Bool) (U : Int) (V : ByteArray) (W Y : Int) (Z : ByteArray) (aa ab k : Int) (d : ByteArray) (c : Option Addr) (p : Nat) (e : List UInt8) (ac ad ae ay : Int) (b6 : 1 ≤ b) {y : R___primary_Machine__begin} (hm : m___primary_Machine__begin F az a4 a5 aw ao ap ag q r ah ai aj ak al am m j A B C D G H J L O P Q R T U V W Y Z aa ab k d e ac ad ae ay = some y) : CallG Tryz.prog 46 #[pA av 0,.agg ((kc13)).toArray] (X := (Option Addr × Nat × Option Addr × Nat) × (Option Addr × Nat) × (Option Addr × Nat × Option Addr × Nat × Option Addr × Nat × Option Addr × Nat × Option Addr × Nat × Option Addr × Nat × Option Addr × Nat × Option Addr × Nat × Option Addr × Nat × Option Addr × Nat × Nat × Option Addr × Nat × Option Addr × Nat) × (Option Addr × Nat × Option Addr × Nat × Option Addr × Nat × Option Addr × Nat × Option Addr × Nat × Option Addr × Nat × Option Addr × Nat × Option Addr × Nat × Nat × Option Addr × Nat) × (Option Addr × Nat × Option Addr × Nat × Nat × Option Addr × Nat)) (fun (x : (Option Addr × Nat × Option Addr × Nat) × (Option Addr × Nat) × (Option Addr × Nat × Option Addr × Nat × Option Addr × Nat × Option Addr × Nat × Option Addr × Nat × Option Addr × Nat × Option Addr × Nat × Option Addr × Nat × Option Addr × Nat × Option Addr × Nat × Nat × Option Addr × Nat × Option Addr × Nat) × (Option Addr × Nat × Option Addr × Nat × Option Addr × Nat × Option Addr × Nat × Option Addr × Nat × Option Addr × Nat × Option Addr × Nat × Option Addr × Nat × Nat × Option Addr × Nat) × (Option Addr × Nat × Option Addr × Nat × Nat × Option Addr × Nat)) => bif y.t == 0 then (fun ⟨⟨x0,x1,x2,x3⟩,_,_,_,_⟩ => .agg ((kc30 x0 x1)).toArray : (Option Addr × Nat × Option Addr × Nat) × (Option Addr × Nat) × (Option Addr × Nat × Option Addr × Nat × Option Addr × Nat × Option Addr × Nat × Option Addr × Nat × Option Addr × Nat × Option Addr × Nat × Option Addr × Nat × Option Addr × Nat × Option Addr × Nat × Nat × Option Addr × Nat × Option Addr × Nat) × (Option Addr × Nat × Option Addr × Nat × Option Addr × Nat × Option Addr × Nat × Option Addr × Nat × Option Addr × Nat × Option Addr × Nat × Option Addr × Nat × Nat × Option Addr × Nat) × (Option Addr × Nat × Option Addr × Nat × Nat × Option Addr × Nat) → Value) x else bif y.t == 1 then (fun ⟨_,⟨x0,x1⟩,_,_,_⟩ => .agg ((kc13)).toArray : (Option Addr × Nat × Option Addr × Nat) × (Option Addr × Nat) × (Option Addr × Nat × Option Addr × Nat × Option Addr × Nat × Option Addr × Nat × Option Addr × Nat × Option Addr × Nat × Option Addr × Nat × Option Addr × Nat × Option Addr × Nat × Option Addr × Nat × Nat × Option Addr × Nat × Option Addr × Nat) × (Option Addr × Nat × Option Addr × Nat × Option Addr × Nat × Option Addr × Nat × Option Addr × Nat × Option Addr × Nat × Option Addr × Nat × Option Addr × Nat × Nat × Option Addr × Nat) × (Option Addr × Nat × Option Addr × Nat × Nat × Option Addr × Nat) → Value) x else bif y.t == 2 then (fun ⟨_,_,⟨x0,x1,x2,x3,x4,x5,x6,x7,x8,x9,b7,b8,b9,ca,cb,cc,cd,ce,cf,cj,ck,cl,cm,bp,bq⟩,_,_⟩ => .agg ((kc51 y.c0 y.c1 y.c2 x0 y.c3.length x1 x2 y.c4.length x3 x4 y.c5.length x5 d y.c6 y.c7 x6 y.c8.length x7 x8 x9)).toArray : (Option Addr × Nat × Option Addr × Nat) × (Option Addr × Nat) × (Option Addr × Nat × Option Addr × Nat × Option Addr × Nat × Option Addr × Nat × Option Addr × Nat × Option Addr × Nat × Option Addr × Nat × Option Addr × Nat × Option Addr × Nat × Option Addr × Nat × Nat × Option Addr × Nat × Option Addr × Nat) × (Option Addr × Nat × Option Addr × Nat × Option Addr × Nat × Option Addr × Nat × Option Addr × Nat × Option Addr × Nat × Option Addr × Nat × Option Addr × Nat × Nat × Option Addr × Nat) × (Option Addr × Nat × Option Addr × Nat × Nat × Option Addr × Nat) → Value) x else bif y.t == 3 then (fun ⟨_,_,_,⟨x0,x1,x2,x3,x4,x5,x6,x7,x8,x9,b7,b8,b9,ca,cb,cc,cd,ce,cf⟩,_⟩ => .agg ((kc62 y.d0 y.d1 y.d2 x0 y.d3.length x1 x2 y.d4.length x3 x4 y.d5.length x5 y.d6 y.d7 y.d8 y.d9 y.d10 y.d11 x6 x7)).toArray : (Option Addr × Nat × Option Addr × Nat) × (Option Addr × Nat) × (Option Addr × Nat × Option Addr × Nat × Option Addr × Nat × Option Addr × Nat × Option Addr × Nat × Option Addr × Nat × Option Addr × Nat × Option Addr × Nat × Option Addr × Nat × Option Addr × Nat × Nat × Option Addr × Nat × Option Addr × Nat) × (Option Addr × Nat × Option Addr × Nat × Option Addr × Nat × Option Addr × Nat × Option Addr × Nat × Option Addr × Nat × Option Addr × Nat × Option Addr × Nat × Nat × Option Addr × Nat) × (Option Addr × Nat × Option Addr × Nat × Nat × Option Addr × Nat) → Value) x else (fun ⟨_,_,_,_,⟨x0,x1,x2,x3,x4,x5,x6⟩⟩ => .agg ((kc30 x0 x1)).toArray : (Option Addr × Nat × Option Addr × Nat) × (Option Addr × Nat) × (Option Addr × Nat × Option Addr × Nat × Option Addr × Nat × Option Addr × Nat × Option Addr × Nat × Option Addr × Nat × Option Addr × Nat × Option Addr × Nat × Option Addr × Nat × Option Addr × Nat × Nat × Option Addr × Nat × Option Addr × Nat) × (Option Addr × Nat × Option Addr × Nat × Option Addr × Nat × Option Addr × Nat × Option Addr × Nat × Option Addr × Nat × Option Addr × Nat × Option Addr × Nat × Nat × Option Addr × Nat) × (Option Addr × Nat × Option Addr × Nat × Nat × Option Addr × Nat) → Value) x) [.osl n b 65 46 [(kc12 ag q r ah ai aj ak al am m j A B C D G H J L O P Q R T U V W Y Z aa ab k d c e.length p ac ad ae)],.cells av 80 (kc14 z au az a4 a5 af aw.length ax s ao.length aq u ap.length ar n b ay)] [.rd z 1 [[vI 1]],r31 af aw,r94 s ao,r91 u ap,r5 c e] (fun (x : (Option Addr × Nat × Option Addr × Nat) × (Option Addr × Nat) × (Option Addr × Nat × Option Addr × Nat × Option Addr × Nat × Option Addr × Nat × Option Addr × Nat × Option Addr × Nat × Option Addr × Nat × Option Addr × Nat × Option Addr × Nat × Option Addr × Nat × Nat × Option Addr × Nat × Option Addr × Nat) × (Option Addr × Nat × Option Addr × Nat × Option Addr × Nat × Option Addr × Nat × Option Addr × Nat × Option Addr × Nat × Option Addr × Nat × Option Addr × Nat × Nat × Option Addr × Nat) × (Option Addr × Nat × Option Addr × Nat × Nat × Option Addr × Nat)) => bif y.t == 0 then (fun ⟨⟨x0,x1,x2,x3⟩,_,_,_,_⟩ => [.osl x0 x1 65 46 [(kc29 q r m j y.a0 y.a1 y.a2 y.a3)],.osl x2 x3 65 46 [],.cells av 80 (kc11 z au az a4 a5 af aw.length ax s ao.length aq u ap.length ar x2 x3 ay)] : (Option Addr × Nat × Option Addr × Nat) × (Option Addr × Nat) × (Option Addr × Nat × Option Addr × Nat × Option Addr × Nat × Option Addr × Nat × Option Addr × Nat × Option Addr × Nat × Option Addr × Nat × Option Addr × Nat × Option Addr × Nat × Option Addr × Nat × Nat × Option Addr × Nat × Option Addr × Nat) × (Option Addr × Nat × Option Addr × Nat × Option Addr × Nat × Option Addr × Nat × Option Addr × Nat × Option Addr × Nat × Option Addr × Nat × Option Addr × Nat × Nat × Option Addr × Nat) × (Option Addr × Nat × Option Addr × Nat × Nat × Option Addr × Nat) → List Ent) x else bif y.t == 1 then (fun ⟨_,⟨x0,x1⟩,_,_,_⟩ => [.osl x0 x1 65 46 [],.cells av 80 (kc11 z au az a4 a5 af aw.length ax s ao.length aq u ap.length ar x0 x1 ay)] : (Option Addr × Nat × Option Addr × Nat) × (Option Addr × Nat) × (Option Addr × Nat × Option Addr × Nat × Option Addr × Nat × Option Addr × Nat × Option Addr × Nat × Option Addr × Nat × Option Addr × Nat × Option Addr × Nat × Option Addr × Nat × Option Addr × Nat × Nat × Option Addr × Nat × Option Addr × Nat) × (Option Addr × Nat × Option Addr × Nat × Option Addr × Nat × Option Addr × Nat × Option Addr × Nat × Option Addr × Nat × Option Addr × Nat × Option Addr × Nat × Nat × Option Addr × Nat) × (Option Addr × Nat × Option Addr × Nat × Nat × Option Addr × Nat) → List Ent) x else bif y.t == 2 then (fun ⟨_,_,⟨x0,x1,x2,x3,x4,x5,x6,x7,x8,x9,b7,b8,b9,ca,cb,cc,cd,ce,cf,cj,ck,cl,cm,bp,bq⟩,_,_⟩ => [o31 x0 x1 y.c3,o94 x2 x3 y.c4,o91 x4 x5 y.c5,o5 x6 x7 y.c8,o5 b7 b8 y.c11,.osl x8 x9 65 46 [(kc50 y.c6 y.c7 y.c9 y.c10 d m j d y.c6 y.c7 b7 y.c11.length b8)],o31 b9 ca y.c15,o94 cb cc y.c16,o91 cd ce y.c17,.osl cf cj 65 46 [],o5 cl cm y.c18,.osl bp bq 3 1 [[vI 1]],.cells ck 104 (kc38 ag q r ah ai aj ak al am m j A B C D G H J L O P Q R T U V W Y Z aa ab k d c e.length p ac ad ae y.c6 y.c7 y.c9 y.c10 d m j d y.c6 y.c7 cl y.c18.length cm bp bq),.cells av 80 (kc39 z au y.c12 y.c13 y.c14 b9 y.c15.length ca cb y.c16.length cc cd y.c17.length ce cf cj ck ay)] : (Option Addr × Nat × Option Addr × Nat) × (Option Addr × Nat) × (Option Addr × Nat × Option Addr × Nat × Option Addr × Nat × Option Addr × Nat × Option Addr × Nat × Option Addr × Nat × Option Addr × Nat × Option Addr × Nat × Option Addr × Nat × Option Addr × Nat × Nat × Option Addr × Nat × Option Addr × Nat) × (Option Addr × Nat × Option Addr × Nat × Option Addr × Nat × Option Addr × Nat × Option Addr × Nat × Option Addr × Nat × Option Addr × Nat × Option Addr × Nat × Nat × Option Addr × Nat) × (Option Addr × Nat × Option Addr × Nat × Nat × Option Addr × Nat) → List Ent) x else bif y.t == 3 then (fun ⟨_,_,_,⟨x0,x1,x2,x3,x4,x5,x6,x7,x8,x9,b7,b8,b9,ca,cb,cc,cd,ce,cf⟩,_⟩ => [o31 x0 x1 y.d3,o94 x2 x3 y.d4,o91 x4 x5 y.d5,.osl x6 x7 65 46 [(kc61 y.d12 y.d13 y.d14 y.d15 d m j)],o31 x8 x9 y.d19,o94 b7 b8 y.d20,o91 b9 ca y.d21,.osl cb cc 65 46 [],.osl ce cf 3 1 [[vI 1]],.cells cd 104 (kc36 ag q r ah ai aj ak al am m j A B C D G H J L O P Q R T U V W Y Z aa ab k d c e.length p ac ad ae y.d12 y.d13 y.d14 y.d15 d m j ce cf),.cells av 80 (kc39 z au y.d16 y.d17 y.d18 x8 y.d19.length x9 b7 y.d20.length b8 b9 y.d21.length ca cb cc cd ay)] : (Option Addr × Nat × Option Addr × Nat) × (Option Addr × Nat) × (Option Addr × Nat × Option Addr × Nat × Option Addr × Nat × Option Addr × Nat × Option Addr × Nat × Option Addr × Nat × Option Addr × Nat × Option Addr × Nat × Option Addr × Nat × Option Addr × Nat × Nat × Option Addr × Nat × Option Addr × Nat) × (Option Addr × Nat × Option Addr × Nat × Option Addr × Nat × Option Addr × Nat × Option Addr × Nat × Option Addr × Nat × Option Addr × Nat × Option Addr × Nat × Nat × Option Addr × Nat) × (Option Addr × Nat × Option Addr × Nat × Nat × Option Addr × Nat) → List Ent) x else (fun ⟨_,_,_,_,⟨x0,x1,x2,x3,x4,x5,x6⟩⟩ => [.osl x0 x1 65 46 [(kc66 y.e0)],.osl x2 x3 65 46 [],.osl x5 x6 3 1 [[vI 1]],.cells x4 104 (kc63 ag q r ah ai aj ak al am m j A B C D G H J L O P Q R T U V W Y Z aa ab k d c e.length p ac ad ae y.e0 x5 x6),.cells av 80 (kc39 z au az a4 a5 af aw.length ax s ao.length aq u ap.length ar x2 x3 x4 y.e0)] : (Option Addr × Nat × Option Addr × Nat) × (Option Addr × Nat) × (Option Addr × Nat × Option Addr × Nat × Option Addr × Nat × Option Addr × Nat × Option Addr × Nat × Option Addr × Nat × Option Addr × Nat × Option Addr × Nat × Option Addr × Nat × Option Addr × Nat × Nat × Option Addr × Nat × Option Addr × Nat) × (Option Addr × Nat × Option Addr × Nat × Option Addr × Nat × Option Addr × Nat × Option Addr × Nat × Option Addr × Nat × Option Addr × Nat × Option Addr × Nat × Nat × Option Addr × Nat) × (Option Addr × Nat × Option Addr × Nat × Nat × Option Addr × Nat) → List Ent) x) := by
 rw [m___primary_Machine__begin] at hm
 refine GS.st Tryz.func46 Tryz.ntmps46 (fun w => ?_)
 refine GS.seq ?_
 refine GS.dg [1] (fun an => [(3,pA ((an 0).x) 0),(4,pA ((an 1).x) 0)]) [] (fun an => [(8,.cells ((an 0).x) 68 (kc13)),(9,.cells ((an 1).x) 68 (kc13))]) [(0,hN 8),(1,hN 9)] (fun an => []) (fun an => ?_)
 refine GS.seq ?_
 refine GS.block ?_
 refine GS.loop ?_
 refine GS.seq ?_
 refine GS.seq ?_
 refine GS.eg [] [(35,.bool true)] [] [] [(3,hL 2 0 0),(9,hL 2 0 0),(16,hL 2 0 0),(22,hL 8 0 0),(27,hL 8 0 0)] [qE av,qE av,qE av,qE ((an 0).x),qE ((an 0).x)] ?_
 refine GS.cT ?_
 refine GS.skip ?_
 refine GS.block ?_
 refine GS.seq ?_
 refine GS.dg [35] (fun a7 => [(5,pA ((a7 6).x) 0)]) [] (fun a7 => [(10,.cells ((a7 6).x) 65 (kc12 ag q r ah ai aj ak al am m j A B C D G H J L O P Q R T U V W Y Z aa ab k d c e.length p ac ad ae))]) [(3,hL 2 0 0),(4,hA (.idx 1 0)),(5,hR 1 0 0 (kc12 ag q r ah ai aj ak al am m j A B C D G H J L O P Q R T U V W Y Z aa ab k d c e.length p ac ad ae)),(6,hN 10),(7,hS 10)] (fun a7 => [qE av,qE n,qE (([(kc12 ag q r ah ai aj ak al am m j A B C D G H J L O P Q R T U V W Y Z aa ab k d c e.length p ac ad ae)] : List (List Value)).length),qE (0 : Int),⟨((Nat.le_of_ble_eq_true rfl) : 0 < 1)⟩,qE (blk n),qE (offs n + 0 * 46),qE (some (kc12 ag q r ah ai aj ak al am m j A B C D G H J L O P Q R T U V W Y Z aa ab k d c e.length p ac ad ae)),qE ((a7 6).x),qE true]) (fun a7 => ?_)
 refine GS.seq ?_
 refine GS.open_ ?_
 refine GR.eu 8 [] [(47,.slice (cutOb n 1 b 46) 0 (b - 1)),(49,pA av 12)] [] [] [(4,hL 2 0 0),(5,{ act := .cut 1 1 b,sp := some (.slice (cutOb n 1 b 46) 0 (b - 1)) })] [qE av,qE (1 : Int),qE 1,qE b,⟨((Nat.le_of_ble_eq_true rfl) : 1 ≤ 1)⟩,⟨b6⟩,⟨((Nat.le_refl _) : b ≤ b)⟩,⟨((by intro h; first | rfl | cases h) : (none : Option Operand) = none → (none : Option Operand) = none)⟩,qE ((.slice (if b = 1 then n else (n).map (fun a => a.add (1 * 46))) (1 - 1) (b - 1)) : Value)] ?_
 refine GR.eu 1 [47,49] [] [] [(2,.cells av 80 (kc11 z au az a4 a5 af aw.length ax s ao.length aq u ap.length ar (cutOb n 1 b 46) (b - 1) ay))] [(8,hS 2)] [qE av,qE true] ?_
 refine GR.setMem (fun w hw => hw.oc 1 (.osl n b 65 46 [(kc12 ag q r ah ai aj ak al am m j A B C D G H J L O P Q R T U V W Y Z aa ab k d c e.length p ac ad ae)]) 11 (.osl (cutOb n 1 b 46) (b - 1) 65 46 (((([(kc12 ag q r ah ai aj ak al am m j A B C D G H J L O P Q R T U V W Y Z aa ab k d c e.length p ac ad ae)] : List (List Value))).drop 1).take (1 - 1))) (own_cut (l := 1) (hh := 1) (Nat.le_of_ble_eq_true rfl) b6)) ?_
 refine GR.cv [] [(11,.osl (cutOb n 1 b 46) (b - 1) 65 46 [])] ?_
 refine GR.dm ?_
 refine GS.seq ?_
 refine GS.eg [] [(52,vI k)] [] [] [(2,hL 10 0 0)] [qE ((a7 6).x)] ?_
 refine GS.block ?_
 refine GS.seq ?_
 refine GS.seq ?_
 refine GS.ez [] [(62,.bool (k == 2))] [] ?_
 refine jn_elim hm (fun cw ct hm => ?_)
 refine GS.cu (ι := Bool) (fun (b3 : Bool) => cw b3 = some y) [] (fun (b3 : Bool) => [(62,.bool b3)]) [] (fun (b3 : Bool) => []) ?_ ?_
 rotate_left
 ·intro cn
  refine GS.cd (k == 2) (fun h8 => ?_) (fun h8 => ?_)
  ·replace hm := br_t h8 hm
   refine GS.skip ?_
   exact GS.rs (cn (k == 2) hm)
  ·replace hm := br_f h8 hm
   refine GS.seq ?_
   refine GS.ez [] [(62,.bool (k == 3))] [] ?_
   refine GS.cd (k == 3) (fun co => ?_) (fun co => ?_)
   ·replace hm := br_t co hm
    refine GS.skip ?_
    exact GS.rs (cn (k == 3) hm)
   ·replace hm := br_f co hm
    refine GS.ez [] [(62,.bool (k == 4))] [] ?_
    exact GS.rs (cn (k == 4) hm)
 ·rintro b3 hm
  replace hm := (ct _).symm.trans hm
  try dsimp only at hm
  refine GS.cd b3 (fun cp => ?_) (fun cp => ?_)
  ·replace hm := br_t cp hm
   refine bnd_elim hm (fun o ch hm => ?_)
   refine br_elim hm (fun cg hm => ?_) (fun cg hm => ?_)
   ·skip
    refine GS.open_ ?_
    refine GR.eu 3 [5,52,62] [(66,pA av 0),(67,.agg ((kc12 ag q r ah ai aj ak al am m j A B C D G H J L O P Q R T U V W Y Z aa ab k d c e.length p ac ad ae)).toArray),(68,.agg ((kc13)).toArray)] [10] [] [(1,hL 10 0 0),(2,hL 8 0 0)] [qE ((a7 6).x),qE ((an 0).x)] ?_
    refine GR.cg (CallG.fT cg (w___primary_Machine__write F av z au az a4 a5 af ax aw s aq ao u ar ap (cutOb n 1 b 46) (b - 1) ay ag q r ah ai aj ak al am m j A B C D G H J L O P Q R T U V W Y Z aa ab k d c p e ac ad ae ch)) [2] [12,2] [66,67,68] [] ⟨rR 3,rR 4,rR 5,rR 6,rV 11 (.osl (cutOb n 1 b 46) (b - 1) 65 46 []) Cov.osl_rd,rR 7,trivial⟩ ?_
    rintro ⟨⟨bp,bq⟩,_,_,_⟩
    refine GR.eu 1 [69] [] [7] [(8,.cells ((an 0).x) 68 (kc30 bp bq))] [(4,hS 8)] [qE ((an 0).x),qE true] ?_
    refine GR.dm ?_
    refine GS.inBlock ?_
    refine GS.inBlock ?_
    refine GS.inLoop ?_
    refine GS.seq ?_
    refine GS.seq ?_
    refine GS.eg [] [(35,.bool false)] [] [] [(3,hL 2 0 0),(9,hL 2 0 0),(16,hL 2 0 0)] [qE av,qE av,qE av] ?_
    refine GS.cF ?_
    refine GS.exit rfl ?_
    refine GS.seq ?_
    refine GS.eg [0,3,35] [] [8] [(9,.cells ((an 1).x) 68 (kc30 bp bq))] [(0,hL 8 0 0),(1,hS 9)] [qE ((an 0).x),qE ((an 1).x),qE true] ?_
    have hy := Option.some.inj hm
    subst hy
    exact GS.rv [9] [qE ((an 1).x)] Tryz.func46 ⟨⟨bp,bq,cutOb n 1 b 46,b - 1⟩,⟨none,0⟩,⟨none,0,none,0,none,0,none,0,none,0,none,0,none,0,none,0,none,0,none,0,0,none,0,none,0⟩,⟨none,0,none,0,none,0,none,0,none,0,none,0,none,0,none,0,0,none,0⟩,⟨none,0,none,0,0,none,0⟩⟩ [12,11,2]
   ·skip
    refine br_elim hm (fun ci hm => ?_) (fun ci hm => ?_)
    ·skip
     refine GS.open_ ?_
     refine GR.eu 3 [5,52,62] [(66,pA av 0),(67,.agg ((kc12 ag q r ah ai aj ak al am m j A B C D G H J L O P Q R T U V W Y Z aa ab k d c e.length p ac ad ae)).toArray),(68,.agg ((kc13)).toArray)] [10] [] [(1,hL 10 0 0),(2,hL 8 0 0)] [qE ((a7 6).x),qE ((an 0).x)] ?_
     refine GR.cg (CallG.fT ci (CallG.fF cg (w___primary_Machine__write F av z au az a4 a5 af ax aw s aq ao u ar ap (cutOb n 1 b 46) (b - 1) ay ag q r ah ai aj ak al am m j A B C D G H J L O P Q R T U V W Y Z aa ab k d c p e ac ad ae ch))) [2] [2] [66,67,68] [] ⟨rR 3,rR 4,rR 5,rR 6,rV 11 (.osl (cutOb n 1 b 46) (b - 1) 65 46 []) Cov.osl_rd,rR 7,trivial⟩ ?_
     rintro ⟨_,_,_,_⟩
     refine GR.eu 1 [69] [] [7] [] [(4,hS 8)] [qE ((an 0).x),qE true] ?_
     refine GR.dm ?_
     refine GS.inBlock ?_
     refine GS.inBlock ?_
     refine GS.inLoop ?_
     refine GS.seq ?_
     refine GS.seq ?_
     refine GS.eg [] [(35,.bool false)] [] [] [(3,hL 2 0 0),(9,hL 2 0 0),(16,hL 2 0 0)] [qE av,qE av,qE av] ?_
     refine GS.cF ?_
     refine GS.exit rfl ?_
     refine GS.seq ?_
     refine GS.eg [0,3,35] [] [8] [] [(0,hL 8 0 0),(1,hS 9)] [qE ((an 0).x),qE ((an 1).x),qE true] ?_
     have hy := Option.some.inj hm
     subst hy
     exact GS.rv [9] [qE ((an 1).x)] Tryz.func46 ⟨⟨none,0,none,0⟩,⟨cutOb n 1 b 46,b - 1⟩,⟨none,0,none,0,none,0,none,0,none,0,none,0,none,0,none,0,none,0,none,0,0,none,0,none,0⟩,⟨none,0,none,0,none,0,none,0,none,0,none,0,none,0,none,0,0,none,0⟩,⟨none,0,none,0,0,none,0⟩⟩ [11,2]
    ·skip
     refine br_elim hm (fun cq hm => ?_) (fun cq hm => ?_)
     ·skip
      refine GS.open_ ?_
      refine GR.eu 3 [5,52,62] [(66,pA av 0),(67,.agg ((kc12 ag q r ah ai aj ak al am m j A B C D G H J L O P Q R T U V W Y Z aa ab k d c e.length p ac ad ae)).toArray),(68,.agg ((kc13)).toArray)] [10] [] [(1,hL 10 0 0),(2,hL 8 0 0)] [qE ((a7 6).x),qE ((an 0).x)] ?_
      refine GR.cg (CallG.fT cq (CallG.fF ci (CallG.fF cg (w___primary_Machine__write F av z au az a4 a5 af ax aw s aq ao u ar ap (cutOb n 1 b 46) (b - 1) ay ag q r ah ai aj ak al am m j A B C D G H J L O P Q R T U V W Y Z aa ab k d c p e ac ad ae ch)))) [2] [12,13,14,15,17,16,18,19,20,22,23,21,2] [66,67,68] [] ⟨rR 3,rR 4,rR 5,rR 6,rV 11 (.osl (cutOb n 1 b 46) (b - 1) 65 46 []) Cov.osl_rd,rR 7,trivial⟩ ?_
      rintro ⟨_,_,⟨a8,a9,ba,bb,bc,bd,be,bf,bg,bh,bi,bj,bk,bl,bm,bn,bo,bt,bu,bv,bw,bx,bz⟩,_⟩
      refine GR.eu 1 [69] [] [4,5,6] [(8,.cells ((an 0).x) 68 (kc51 o.c0 o.c1 o.c2 a8 o.c3.length a9 ba o.c4.length bb bc o.c5.length bd d o.c6 o.c7 be o.c8.length bf bg bh))] [(4,hS 8)] [qE ((an 0).x),qE true] ?_
      refine GR.dm ?_
      refine GS.inBlock ?_
      refine GS.inBlock ?_
      refine GS.inLoop ?_
      refine GS.seq ?_
      refine GS.seq ?_
      refine GS.eg [] [(35,.bool false)] [] [] [(3,hL 2 0 0)] [qE av] ?_
      refine GS.cF ?_
      refine GS.exit rfl ?_
      refine GS.seq ?_
      refine GS.eg [0,3,35] [] [8] [(9,.cells ((an 1).x) 68 (kc51 o.c0 o.c1 o.c2 a8 o.c3.length a9 ba o.c4.length bb bc o.c5.length bd d o.c6 o.c7 be o.c8.length bf bg bh))] [(0,hL 8 0 0),(1,hS 9)] [qE ((an 0).x),qE ((an 1).x),qE true] ?_
      have hy := Option.some.inj hm
      subst hy
      exact GS.rv [9] [qE ((an 1).x)] Tryz.func46 ⟨⟨none,0,none,0⟩,⟨none,0⟩,⟨a8,a9,ba,bb,bc,bd,be,bf,bg,bh,bi,bj,bk,bl,bm,bn,bo,bt,cutOb n 1 b 46,b - 1,bu,bv,bw,bx,bz⟩,⟨none,0,none,0,none,0,none,0,none,0,none,0,none,0,none,0,0,none,0⟩,⟨none,0,none,0,0,none,0⟩⟩ [12,13,14,15,17,16,18,19,20,11,22,23,21,2]
     ·skip
      refine GS.open_ ?_
      refine GR.eu 3 [5,52,62] [(66,pA av 0),(67,.agg ((kc12 ag q r ah ai aj ak al am m j A B C D G H J L O P Q R T U V W Y Z aa ab k d c e.length p ac ad ae)).toArray),(68,.agg ((kc13)).toArray)] [10] [] [(1,hL 10 0 0),(2,hL 8 0 0)] [qE ((a7 6).x),qE ((an 0).x)] ?_
      refine GR.cg (CallG.fF cq (CallG.fF ci (CallG.fF cg (w___primary_Machine__write F av z au az a4 a5 af ax aw s aq ao u ar ap (cutOb n 1 b 46) (b - 1) ay ag q r ah ai aj ak al am m j A B C D G H J L O P Q R T U V W Y Z aa ab k d c p e ac ad ae ch)))) [2] [12,13,14,15,16,17,18,20,19,2] [66,67,68] [] ⟨rR 3,rR 4,rR 5,rR 6,rV 11 (.osl (cutOb n 1 b 46) (b - 1) 65 46 []) Cov.osl_rd,rR 7,trivial⟩ ?_
      rintro ⟨_,_,_,⟨a8,a9,ba,bb,bc,bd,be,bf,bg,bh,bi,bj,bk,bl,bm,bn,bo⟩⟩
      refine GR.eu 1 [69] [] [4,5,6] [(8,.cells ((an 0).x) 68 (kc62 o.d0 o.d1 o.d2 a8 o.d3.length a9 ba o.d4.length bb bc o.d5.length bd o.d6 o.d7 o.d8 o.d9 o.d10 o.d11 be bf))] [(4,hS 8)] [qE ((an 0).x),qE true] ?_
      refine GR.dm ?_
      refine GS.inBlock ?_
      refine GS.inBlock ?_
      refine GS.inLoop ?_
      refine GS.seq ?_
      refine GS.seq ?_
      refine GS.eg [] [(35,.bool false)] [] [] [(3,hL 2 0 0)] [qE av] ?_
      refine GS.cF ?_
      refine GS.exit rfl ?_
      refine GS.seq ?_
      refine GS.eg [0,3,35] [] [8] [(9,.cells ((an 1).x) 68 (kc62 o.d0 o.d1 o.d2 a8 o.d3.length a9 ba o.d4.length bb bc o.d5.length bd o.d6 o.d7 o.d8 o.d9 o.d10 o.d11 be bf))] [(0,hL 8 0 0),(1,hS 9)] [qE ((an 0).x),qE ((an 1).x),qE true] ?_
      have hy := Option.some.inj hm
      subst hy
      exact GS.rv [9] [qE ((an 1).x)] Tryz.func46 ⟨⟨none,0,none,0⟩,⟨none,0⟩,⟨none,0,none,0,none,0,none,0,none,0,none,0,none,0,none,0,none,0,none,0,0,none,0,none,0⟩,⟨a8,a9,ba,bb,bc,bd,be,bf,bg,bh,bi,bj,bk,bl,cutOb n 1 b 46,b - 1,bm,bn,bo⟩,⟨none,0,none,0,0,none,0⟩⟩ [12,13,14,15,16,17,18,11,20,19,2]
  ·replace hm := br_f cp hm
   refine GS.seq ?_
   refine GS.seq ?_
   refine GS.ez [62] [(70,.bool (k == 1))] [] ?_
   refine jn_elim hm (fun cx cu hm => ?_)
   refine GS.cu (ι := Bool) (fun (b4 : Bool) => cx b4 = some y) [52] (fun (b4 : Bool) => [(70,.bool b4)]) [] (fun (b4 : Bool) => []) ?_ ?_
   rotate_left
   ·intro cv
    refine GS.cd (k == 1) (fun cr => ?_) (fun cr => ?_)
    ·replace hm := br_t cr hm
     refine GS.skip ?_
     exact GS.rs (cv (k == 1) hm)
    ·replace hm := br_f cr hm
     refine GS.ez [52] [(70,.bool (k == 5))] [] ?_
     exact GS.rs (cv (k == 5) hm)
   ·rintro b4 hm
    replace hm := (cu _).symm.trans hm
    try dsimp only at hm
    refine GS.cd b4 (fun cs => ?_) (fun cs => ?_)
    ·replace hm := br_t cs hm
     refine bnd_elim hm (fun b5 cy hm => ?_)
     refine GS.open_ ?_
     refine GR.eu 3 [5,70] [(73,pA av 0),(74,.agg ((kc12 ag q r ah ai aj ak al am m j A B C D G H J L O P Q R T U V W Y Z aa ab k d c e.length p ac ad ae)).toArray),(75,.agg ((kc13)).toArray)] [10] [] [(1,hL 10 0 0),(2,hL 8 0 0)] [qE ((a7 6).x),qE ((an 0).x)] ?_
     refine GR.cg (w___primary_Machine__read F av z au az a4 a5 af ax aw s aq ao u ar ap (cutOb n 1 b 46) (b - 1) ay ag q r ah ai aj ak al am m j A B C D G H J L O P Q R T U V W Y Z aa ab k d c p e ac ad ae cy) [2] [12,14,13,2] [73,74,75] [] ⟨rR 3,rR 4,rR 5,rR 6,rV 11 (.osl (cutOb n 1 b 46) (b - 1) 65 46 []) Cov.osl_rd,rR 7,trivial⟩ ?_
     rintro ⟨br,bs,b0,b1,b2⟩
     refine GR.eu 1 [76] [] [] [(8,.cells ((an 0).x) 68 (kc30 br bs))] [(4,hS 8)] [qE ((an 0).x),qE true] ?_
     refine GR.dm ?_
     refine GS.inBlock ?_
     refine GS.inBlock ?_
     refine GS.inLoop ?_
     refine GS.seq ?_
     refine GS.seq ?_
     refine GS.eg [] [(35,.bool false)] [] [] [(3,hL 2 0 0)] [qE av] ?_
     refine GS.cF ?_
     refine GS.exit rfl ?_
     refine GS.seq ?_
     refine GS.eg [0,3,35] [] [8] [(9,.cells ((an 1).x) 68 (kc30 br bs))] [(0,hL 8 0 0),(1,hS 9)] [qE ((an 0).x),qE ((an 1).x),qE true] ?_
     have hy := Option.some.inj hm
     subst hy
     exact GS.rv [9] [qE ((an 1).x)] Tryz.func46 ⟨⟨none,0,none,0⟩,⟨none,0⟩,⟨none,0,none,0,none,0,none,0,none,0,none,0,none,0,none,0,none,0,none,0,0,none,0,none,0⟩,⟨none,0,none,0,none,0,none,0,none,0,none,0,none,0,none,0,0,none,0⟩,⟨br,bs,cutOb n 1 b 46,b - 1,b0,b1,b2⟩⟩ [12,11,14,13,2]
    ·replace hm := br_f cs hm
     refine bnd_elim hm (fun da cz hm => ?_)
     refine GS.xg [5,70] (fun a6 => []) [7,10] (fun a6 => [(8,.cells ((an 0).x) 68 (kc30 ((a6 7).ob) ((a6 7).cap))),(13,.osl ((a6 7).ob) ((a6 7).cap) 65 46 ([(kc69 q r m j)] : List (List Value)))]) [(1,hL 8 0 0),(3,hL 10 0 0),(5,hC [2,7] (.agg ((kc69 q r m j)).toArray)),(6,hK (.new (.row 1 46)) 12),(7,{ act := .app (some 12),key := some 13,spf := some (fun f => .slice (f.ob) 1 (f.cap)) }),(9,hS 8)] (fun a6 => [qE ((an 0).x),qE ((a7 6).x),⟨(w___primary_Machine__answer F av (.slice z 1 au) (vI az) (vI a4) (vI a5) (.slice af aw.length ax) (.slice s ao.length aq) (.slice u ap.length ar) (.slice (cutOb n 1 b 46) 0 (b - 1)) (.pointer none) (.bool false) (vI ay) (.bool true) ag q r ah ai aj ak al am m j A B C D G H J L O P Q R T U V W Y Z aa ab k d c p e ac ad ae 0 0 0 0 0 0 0 0 0 0 0 0 0 0 0 0 0 0 0 0 0 0 0 false 0 (ByteArray.mk #[]) 0 0 (ByteArray.mk #[]) 0 0 0 (ByteArray.mk #[]) 0 0 22 cz).ok (es := [some (.cells av 80 (kc11 z au az a4 a5 af aw.length ax s ao.length aq u ap.length ar (cutOb n 1 b 46) (b - 1) ay)),some (r5 c e)]) ⟨(.inl ⟨_,mm0,Cov.cells_rd⟩),(.inl ⟨_,mm1,Cov.refl _⟩),trivial⟩⟩,qE (some (Addr.mk (a6 6).x 0 none)),qE (([(kc69 q r m j)] : List (List Value)).length),qE 0,qE 0,⟨((show 1 * (552 + 1) ≤ 70368744177664 by decide) : ([(kc69 q r m j)] : List (List Value)).length * (552 + 1) ≤ 70368744177664)⟩,qE ((.slice ((a6 7).ob) (0 + ([(kc69 q r m j)] : List (List Value)).length) ((a6 7).cap)) : Value),qE ((an 0).x),qE true]) (fun a6 => ?_)
     refine GS.ce 13 (fun rr : List (List Value) => .osl ((a6 7).ob) ((a6 7).cap) 65 46 rr) (show ([(kc69 q r m j)] : List (List Value)) = ([(kc69 q r m j)] : List (List Value)) from rfl) ?_
     refine GS.inBlock ?_
     refine GS.inBlock ?_
     refine GS.inLoop ?_
     refine GS.seq ?_
     refine GS.seq ?_
     refine GS.eg [] [(35,.bool false)] [] [] [(3,hL 2 0 0),(9,hL 2 0 0),(16,hL 2 0 0)] [qE av,qE av,qE av] ?_
     refine GS.cF ?_
     refine GS.exit rfl ?_
     refine GS.seq ?_
     refine GS.eg [0,3,35] [] [8] [(9,.cells ((an 1).x) 68 (kc30 ((a6 7).ob) ((a6 7).cap)))] [(0,hL 8 0 0),(1,hS 9)] [qE ((an 0).x),qE ((an 1).x),qE true] ?_
     have hy := Option.some.inj hm
     subst hy
     exact GS.rv [9] [qE ((an 1).x)] Tryz.func46 ⟨⟨(a6 7).ob,(a6 7).cap,cutOb n 1 b 46,b - 1⟩,⟨none,0⟩,⟨none,0,none,0,none,0,none,0,none,0,none,0,none,0,none,0,none,0,none,0,0,none,0,none,0⟩,⟨none,0,none,0,none,0,none,0,none,0,none,0,none,0,none,0,0,none,0⟩,⟨none,0,none,0,0,none,0⟩⟩ [13,11,2]

end Go.Proofs.YtjnbkhnebmlilaaGreat
