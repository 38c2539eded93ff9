/-
 CHAPTER 18o: the functions do what their models say (14).
-/
import Derived.Test.YtjnbkhnebmlilaaGreatE18o
import Derived.Test.YtjnbkhnebmlilaaGreatW18oa
import Derived.Test.YtjnbkhnebmlilaaGreatW18ok
import Derived.Test.YtjnbkhnebmlilaaGreatW18ol
import Derived.Test.YtjnbkhnebmlilaaGreatW18om
set_option linter.unusedVariables false
set_option linter.unusedSimpArgs false
set_option maxRecDepth 100000
set_option maxHeartbeats 8000000
namespace Go.Proofs.YtjnbkhnebmlilaaGreat
open Go Go.RowKit Sx

theorem w_tholelaw18_lives (F : Nat) {y : Bool} (hm : m_tholelaw18_lives F = some y) : CallG Tryz.prog 7 #[] (X := Unit) (fun (_ : Unit) => .bool y) [] [] (fun (_ : Unit) => []) := by
 rw [m_tholelaw18_lives] at hm
 refine GS.st Tryz.func7 Tryz.ntmps7 (fun w => ?_)
 refine GS.seq ?_
 refine GS.ez [] [] [] ?_
 refine GS.seq ?_
 refine bnd_elim hm (fun y3 e4 hm => ?_)
 refine GS.open_ ?_
 refine GR.du 3 [] (fun am => [(7,.agg #[vI 1,vI 0]),(8,.slice (some (Addr.mk (am 1).x 0 none)) 2 2),(9,.agg ((kc0)).toArray)]) [] (fun am => [(1,.osl (some (Addr.mk (am 1).x 0 none)) 2 3 1 [[vI 0],[vI 1]])]) [(1,hK (.new (.row 2 1)) 1)] (fun am => []) (fun am => ?_)
 refine GR.cg (w_primary_New F (some (Addr.mk (am 1).x 0 none)) 2 e4) [] [2,3,4,5,6] [7,8,9] [] ⟨rV 1 (.osl (some (Addr.mk (am 1).x 0 none)) 2 3 1 [[vI 0],[vI 1]]) Cov.osl_rd,trivial⟩ ?_
 rintro ⟨x5,x6,x7,x8,x9,c,e,d,f⟩
 refine GR.eu 5 [10] [(1,pA x5 0),(2,vI 0)] [1] [] [] [] ?_
 refine GR.dm ?_
 refine GS.seq ?_
 refine GS.seq ?_
 refine GS.ez [2] [(18,.bool false)] [] ?_
 refine GS.cF ?_
 refine GS.skip ?_
 refine GS.seq ?_
 refine GS.dg [18] (fun b => [(3,pA ((b 7).x) 0)]) [] (fun b => [(7,.osl (some (Addr.mk (b 3).x 0 none)) 1 5 1 [[.int .u8 120]]),(8,.cells ((b 7).x) 65 (kc6 (some (Addr.mk (b 3).x 0 none))))]) [(3,hK (.new (.row 1 1)) 7),(4,hK (.markS) 7),(7,hN 8),(8,hS 8)] (fun b => [qE (some (Addr.mk (b 3).x 0 none)),⟨((by decide) : 1 ≠ 0)⟩,qE ((b 7).x),qE true]) (fun b => ?_)
 refine GS.seq ?_
 refine GS.cv [] [(2,.cells x5 80 (kc7 x6 x7 x8 (([] : List S_api_Entry).length) x9 c e d f)),(4,o31 x8 x9 ([] : List S_api_Entry))] ?_
 refine GS.cv [] [(2,.cells x5 80 (kc8 x6 x7 x8 (([] : List S_api_Entry).length) x9 c (([] : List S_api_Last).length) e d f)),(5,o94 c e ([] : List S_api_Last))] ?_
 refine GS.cv [] [(2,.cells x5 80 (kc9 x6 x7 x8 (([] : List S_api_Entry).length) x9 c (([] : List S_api_Last).length) e d (([] : List S_api_Item).length) f)),(6,o91 d f ([] : List S_api_Item))] ?_
 refine GS.an 9 65 46 ?_
 refine GS.cv [] [(7,o5 (some (Addr.mk (b 3).x 0 none)) 1 [(120 : UInt8)]),(8,.cells ((b 7).x) 65 (kc10 (some (Addr.mk (b 3).x 0 none)) ([(120 : UInt8)].length)))] ?_
 refine bnd_elim hm (fun a ao hm => ?_)
 refine br_elim hm (fun an hm => ?_) (fun an hm => ?_)
 ·skip
  refine GS.open_ ?_
  refine GR.eu 2 [3] [(26,pA x5 0),(27,.agg ((kc10 (some (Addr.mk (b 3).x 0 none)) ([(120 : UInt8)].length))).toArray)] [8] [] [(1,hL 8 0 0)] [qE ((b 7).x)] ?_
  refine GR.cg (CallG.fT an (w___primary_Machine__Step F x5 x6 x7 3 0 0 x8 x9 ([] : List S_api_Entry) c e ([] : List S_api_Last) d f ([] : List S_api_Item) none 0 0 30 3 0 2 0 0 0 1 0 5 1 0 0 0 0 0 0 0 0 0 0 0 0 false 0 (ByteArray.mk #[]) 0 0 (ByteArray.mk #[]) 0 0 2 (ByteArray.mk #[97]) (some (Addr.mk (b 3).x 0 none)) 1 [(120 : UInt8)] 0 0 0 ao)) [9,2] [10,11,2] [26,27] [] ⟨rV 3 (.osl x6 x7 3 1 [[vI 1]]) Cov.osl_rd,rV 4 (o31 x8 x9 ([] : List S_api_Entry)) Cov.osl_rd,rV 5 (o94 c e ([] : List S_api_Last)) Cov.osl_rd,rV 6 (o91 d f ([] : List S_api_Item)) Cov.osl_rd,rV 7 (o5 (some (Addr.mk (b 3).x 0 none)) 1 [(120 : UInt8)]) Cov.osl_rd,trivial⟩ ?_
  rintro ⟨⟨ai,Z,R,q⟩,_,_,_,_⟩
  refine GR.du 2 [28] (fun af => [(4,pA ((af 3).x) 0)]) [7] (fun af => [(12,.cells ((af 3).x) 68 (kc30 ai Z))]) [(3,hN 12),(4,hS 12)] (fun af => [qE ((af 3).x),qE true]) (fun af => ?_)
  refine GR.dm ?_
  refine GS.seq ?_
  refine GS.seq ?_
  refine GS.eg [] [(54,.bool true)] [] [] [(1,hL 12 0 0)] [qE ((af 3).x)] ?_
  refine GS.cT ?_
  refine GS.seq ?_
  refine GS.eg [1,4,54] [(0,.bool false)] [2,3,4,5,6,10,11,12] [] [] [] ?_
  have hy := Option.some.inj hm
  subst hy
  exact GS.rv [0] [] Tryz.func7 () []
 ·skip
  refine br_elim hm (fun ap hm => ?_) (fun ap hm => ?_)
  ·skip
   refine GS.open_ ?_
   refine GR.eu 2 [3] [(26,pA x5 0),(27,.agg ((kc10 (some (Addr.mk (b 3).x 0 none)) ([(120 : UInt8)].length))).toArray)] [8] [] [(1,hL 8 0 0)] [qE ((b 7).x)] ?_
   refine GR.cg (CallG.fT ap (CallG.fF an (w___primary_Machine__Step F x5 x6 x7 3 0 0 x8 x9 ([] : List S_api_Entry) c e ([] : List S_api_Last) d f ([] : List S_api_Item) none 0 0 30 3 0 2 0 0 0 1 0 5 1 0 0 0 0 0 0 0 0 0 0 0 0 false 0 (ByteArray.mk #[]) 0 0 (ByteArray.mk #[]) 0 0 2 (ByteArray.mk #[97]) (some (Addr.mk (b 3).x 0 none)) 1 [(120 : UInt8)] 0 0 0 ao))) [9,2] [10,2] [26,27] [] ⟨rV 3 (.osl x6 x7 3 1 [[vI 1]]) Cov.osl_rd,rV 4 (o31 x8 x9 ([] : List S_api_Entry)) Cov.osl_rd,rV 5 (o94 c e ([] : List S_api_Last)) Cov.osl_rd,rV 6 (o91 d f ([] : List S_api_Item)) Cov.osl_rd,rV 7 (o5 (some (Addr.mk (b 3).x 0 none)) 1 [(120 : UInt8)]) Cov.osl_rd,trivial⟩ ?_
   rintro ⟨_,⟨Z,R⟩,_,_,_⟩
   refine GR.du 2 [28] (fun ag => [(4,pA ((ag 3).x) 0)]) [7] (fun ag => [(11,.cells ((ag 3).x) 68 (kc13))]) [(3,hN 11),(4,hS 11)] (fun ag => [qE ((ag 3).x),qE true]) (fun ag => ?_)
   refine GR.dm ?_
   refine GS.seq ?_
   refine GS.seq ?_
   refine GS.eg [] [(54,.bool true)] [] [] [(1,hL 11 0 0)] [qE ((ag 3).x)] ?_
   refine GS.cT ?_
   refine GS.seq ?_
   refine GS.eg [1,4,54] [(0,.bool false)] [2,3,4,5,6,10,11] [] [] [] ?_
   have hy := Option.some.inj hm
   subst hy
   exact GS.rv [0] [] Tryz.func7 () []
  ·skip
   refine br_elim hm (fun aq hm => ?_) (fun aq hm => ?_)
   ·skip
    refine GS.open_ ?_
    refine GR.eu 2 [3] [(26,pA x5 0),(27,.agg ((kc10 (some (Addr.mk (b 3).x 0 none)) ([(120 : UInt8)].length))).toArray)] [8] [] [(1,hL 8 0 0)] [qE ((b 7).x)] ?_
    refine GR.cg (CallG.fT aq (CallG.fF ap (CallG.fF an (w___primary_Machine__Step F x5 x6 x7 3 0 0 x8 x9 ([] : List S_api_Entry) c e ([] : List S_api_Last) d f ([] : List S_api_Item) none 0 0 30 3 0 2 0 0 0 1 0 5 1 0 0 0 0 0 0 0 0 0 0 0 0 false 0 (ByteArray.mk #[]) 0 0 (ByteArray.mk #[]) 0 0 2 (ByteArray.mk #[97]) (some (Addr.mk (b 3).x 0 none)) 1 [(120 : UInt8)] 0 0 0 ao)))) [9,2] [10,11,12,13,15,14,16,17,18,19,21,22,23,20,2] [26,27] [] ⟨rV 3 (.osl x6 x7 3 1 [[vI 1]]) Cov.osl_rd,rV 4 (o31 x8 x9 ([] : List S_api_Entry)) Cov.osl_rd,rV 5 (o94 c e ([] : List S_api_Last)) Cov.osl_rd,rV 6 (o91 d f ([] : List S_api_Item)) Cov.osl_rd,rV 7 (o5 (some (Addr.mk (b 3).x 0 none)) 1 [(120 : UInt8)]) Cov.osl_rd,trivial⟩ ?_
    rintro ⟨_,_,⟨R,q,K,N,O,P,Q,r,s,o,J,G,j,k,l,m,n,u,z,C,D,H,ad,ac,ae,aa,ab⟩,_,_⟩
    refine GR.du 2 [28] (fun Y => [(4,pA ((Y 3).x) 0)]) [4,5,6,7] (fun Y => [(24,.cells ((Y 3).x) 68 (kc72 a.c0 a.c1 a.c2 R a.c3.length q K a.c4.length N O a.c5.length P a.c6 a.c7 Q a.c8.length r s o))]) [(3,hN 24),(4,hS 24)] (fun Y => [qE ((Y 3).x),qE true]) (fun Y => ?_)
    refine GR.dm ?_
    refine GS.seq ?_
    refine GS.seq ?_
    refine bnd_elim hm (fun bd a4 hm => ?_)
    refine GS.eg [] [(54,.bool false)] [] [] [(1,hL 24 0 0),(5,hL 24 0 0),(10,hL 24 0 0),(16,hL 24 0 0),(17,hA (.idx 14 0)),(19,hR 14 0 0 (kc73 a.c6 a.c7 a.c9 a.c10 a.c6 a.c7 J a.c11.length G)),(24,hC [2,20] (.bool false))] [qE ((Y 3).x),qE ((Y 3).x),qE ((Y 3).x),qE ((Y 3).x),qE s,qE (([(kc73 a.c6 a.c7 a.c9 a.c10 a.c6 a.c7 J a.c11.length G)] : List (List Value)).length),qE (0 : Int),⟨((Nat.le_of_ble_eq_true rfl) : 0 < 1)⟩,qE (blk s),qE (offs s + 0 * 46),qE (some (kc73 a.c6 a.c7 a.c9 a.c10 a.c6 a.c7 J a.c11.length G)),⟨(w___primary_Machine__Idle F x5 (vI 1) (vI 0) (vI 3) (vI 0) (vI 9) (.slice x6 1 x7) (vI a.c12) (vI a.c13) (vI a.c14) (.slice j a.c15.length k) (.slice l a.c16.length m) (.slice n a.c17.length u) (.slice z 0 C) D (vI 30) (vI 3) (vI 0) (vI 2) (vI 0) (vI 0) (vI 0) (vI 1) (vI 0) (vI 5) (vI 1) (vI 0) (.slice none 0 0) (.slice none 0 0) (.slice none 0 0) (vI 0) (vI 0) (vI 0) (vI 0) (vI 0) (vI 0) (vI 0) (vI 0) (vI 0) (.slice none 0 0) (.slice none 0 0) (.slice none 0 0) (vI 0) (vI 0) (.bool false) (vI 0) (.string (ByteArray.mk #[])) (vI 0) (vI 0) (.string (ByteArray.mk #[])) (vI 0) (vI 0) (.slice none 0 0) (vI 2) (.string (ByteArray.mk #[97])) (.slice H a.c18.length ad) (vI 0) (vI 0) (.slice none 0 0) (.slice none 0 0) (vI 0) (.bool true) (vI a.c6) (vI a.c7) (.bool a.c9) (vI a.c10) (.string (ByteArray.mk #[97])) (vI 5) (vI 1) (.string (ByteArray.mk #[97])) (vI a.c6) (vI a.c7) (.slice ac a.c19.length ae) (vI 0) (.slice aa 1 ab) (.bool false) (.bool false) (vI 0) a4).ok (es := [some (.cells x5 80 (kc75 x6 x7 a.c12 a.c13 a.c14 j a.c15.length k l a.c16.length m n a.c17.length u z C D)),some (.cells D 104 (kc74 H a.c18.length ad a.c6 a.c7 a.c9 a.c10 a.c6 a.c7 ac a.c19.length ae aa ab))]) ⟨(.inl ⟨_,mm1,Cov.cells_rd⟩),(.inl ⟨_,mm0,Cov.cells_rd⟩),trivial⟩⟩] ?_
    refine GS.cF ?_
    refine GS.skip ?_
    refine GS.seq ?_
    refine GS.kn (p := aa.isNone = false) 23 (.osl aa ab 3 1 [[vI 1]]) (fun w hw => ne_osl hw) (fun be => ?_)
    refine GS.kn (p := 1 ≤ ab) 23 (.osl aa ab 3 1 [[vI 1]]) (fun w hw => hw.1.1) (fun a5 => ?_)
    refine bnd_elim hm (fun A a6 hm => ?_)
    refine GS.open_ ?_
    refine GR.eu 10 [4,54] [(55,pA x5 0),(64,.agg ((kc84 a.c6 a.c7 a.c9 a.c10)).toArray)] [10,11,12,13,14,15,24] [] [(5,hL 24 0 0),(6,hA (.idx 14 0)),(8,hR 14 0 27 (kc73 a.c6 a.c7 a.c9 a.c10 a.c6 a.c7 J a.c11.length G))] [qE ((Y 3).x),qE s,qE (([(kc73 a.c6 a.c7 a.c9 a.c10 a.c6 a.c7 J a.c11.length G)] : List (List Value)).length),qE (0 : Int),⟨((Nat.le_of_ble_eq_true rfl) : 0 < 1)⟩,qE (blk s),⟨((Nat.add_assoc ..) : offs s + 0 * 46 + 27 = offs s + (0 * 46 + 27))⟩,qE (some (kc73 a.c6 a.c7 a.c9 a.c10 a.c6 a.c7 J a.c11.length G))] ?_
    refine GR.cg (w___primary_Machine__Step_2 F x5 x6 x7 a.c12 a.c13 a.c14 j k a.c15 l m a.c16 n u a.c17 z C D 30 3 0 2 0 0 0 1 0 5 1 0 0 0 0 0 0 0 0 0 0 0 0 false 0 (ByteArray.mk #[]) 0 0 (ByteArray.mk #[]) 0 0 2 (ByteArray.mk #[97]) H ad a.c18 0 0 0 a.c6 a.c7 a.c9 a.c10 (ByteArray.mk #[97]) 5 1 (ByteArray.mk #[97]) a.c6 a.c7 ac ae a.c19 0 aa ab 0 2 1 2 0 0 3 1 0 0 0 0 0 0 0 0 0 0 0 0 0 a.c6 a.c7 a.c9 a.c10 (ByteArray.mk #[97]) 5 1 (ByteArray.mk #[]) 0 0 0 (ByteArray.mk #[]) 0 0 0 a5 a6) [23,20,2] [25,23,20,2] [55,64] [] ⟨rV 3 (.osl x6 x7 3 1 [[vI 1]]) Cov.osl_rd,rV 16 (o31 j k a.c15) Cov.osl_rd,rV 17 (o94 l m a.c16) Cov.osl_rd,rV 18 (o91 n u a.c17) Cov.osl_rd,rV 19 (.osl z C 65 46 []) Cov.osl_rd,rV 21 (o5 H ad a.c18) Cov.osl_rd,rV 22 (o5 ac ae a.c19) Cov.osl_rd,trivial⟩ ?_
    rintro ⟨T,aj⟩
    refine GR.du 2 [65] (fun V => [(5,pA ((V 11).x) 0)]) [20,21,22,23] (fun V => [(26,.cells ((V 11).x) 68 (kc30 T aj))]) [(11,hN 26),(12,hS 26)] (fun V => [qE ((V 11).x),qE true]) (fun V => ?_)
    refine GR.dm ?_
    refine GS.seq ?_
    refine br_elim hm (fun ar hm => ?_) (fun ar hm => ?_)
    ·skip
     refine bnd_elim hm (fun bf a7 hm => ?_)
     refine GS.eg [1,5] [(0,.bool true)] [2,3,16,17,18,19,25,26] [] [(1,hL 26 0 0),(6,hL 26 0 0),(7,hA (.idx 25 0)),(9,hR 25 0 0 (kc70 A.a0 A.a1 A.a2 a.c10)),(14,hL 26 0 0),(15,hA (.idx 25 0)),(17,hR 25 0 45 (kc70 A.a0 A.a1 A.a2 a.c10)),(20,hP (.bool true)),(22,hC [2] (.bool true))] [qE ((V 11).x),qE ((V 11).x),qE T,qE (([(kc70 A.a0 A.a1 A.a2 a.c10)] : List (List Value)).length),qE (0 : Int),⟨((Nat.le_of_ble_eq_true rfl) : 0 < 1)⟩,qE (blk T),qE (offs T + 0 * 46),qE (some (kc70 A.a0 A.a1 A.a2 a.c10)),qE ((V 11).x),qE T,qE (([(kc70 A.a0 A.a1 A.a2 a.c10)] : List (List Value)).length),qE (0 : Int),⟨((Nat.le_of_ble_eq_true rfl) : 0 < 1)⟩,qE (blk T),⟨((Nat.add_assoc ..) : offs T + 0 * 46 + 45 = offs T + (0 * 46 + 45))⟩,qE (some (kc70 A.a0 A.a1 A.a2 a.c10)),⟨bool_eq ar⟩,⟨(w___primary_Machine__Idle_2 F x5 (vI 1) (vI 0) (vI 3) (vI 0) (vI 9) (.slice x6 1 x7) (vI a.c12) (vI a.c13) (vI a.c14) (.slice j a.c15.length k) (.slice l a.c16.length m) (.slice n a.c17.length u) (.slice z 0 C) (.bool false) (vI 0) a7).ok (es := [some (.cells x5 80 (kc86 x6 x7 a.c12 a.c13 a.c14 j a.c15.length k l a.c16.length m n a.c17.length u z C))]) ⟨(.inl ⟨_,mm0,Cov.cells_rd⟩),trivial⟩⟩] ?_
     have hy := Option.some.inj hm
     subst hy
     exact GS.rv [0] [] Tryz.func7 () []
    ·skip
     refine GS.eg [1,5] [(0,.bool false)] [2,3,16,17,18,19,25,26] [] [(1,hL 26 0 0),(6,hL 26 0 0),(7,hA (.idx 25 0)),(9,hR 25 0 0 (kc70 A.a0 A.a1 A.a2 a.c10)),(14,hL 26 0 0),(15,hA (.idx 25 0)),(17,hR 25 0 45 (kc70 A.a0 A.a1 A.a2 a.c10)),(20,hP (.bool false))] [qE ((V 11).x),qE ((V 11).x),qE T,qE (([(kc70 A.a0 A.a1 A.a2 a.c10)] : List (List Value)).length),qE (0 : Int),⟨((Nat.le_of_ble_eq_true rfl) : 0 < 1)⟩,qE (blk T),qE (offs T + 0 * 46),qE (some (kc70 A.a0 A.a1 A.a2 a.c10)),qE ((V 11).x),qE T,qE (([(kc70 A.a0 A.a1 A.a2 a.c10)] : List (List Value)).length),qE (0 : Int),⟨((Nat.le_of_ble_eq_true rfl) : 0 < 1)⟩,qE (blk T),⟨((Nat.add_assoc ..) : offs T + 0 * 46 + 45 = offs T + (0 * 46 + 45))⟩,qE (some (kc70 A.a0 A.a1 A.a2 a.c10)),⟨bool_eq ar⟩] ?_
     have hy := Option.some.inj hm
     subst hy
     exact GS.rv [0] [] Tryz.func7 () []
   ·skip
    refine br_elim hm (fun au hm => ?_) (fun au hm => ?_)
    ·skip
     refine GS.open_ ?_
     refine GR.eu 2 [3] [(26,pA x5 0),(27,.agg ((kc10 (some (Addr.mk (b 3).x 0 none)) ([(120 : UInt8)].length))).toArray)] [8] [] [(1,hL 8 0 0)] [qE ((b 7).x)] ?_
     refine GR.cg (CallG.fT au (CallG.fF aq (CallG.fF ap (CallG.fF an (w___primary_Machine__Step F x5 x6 x7 3 0 0 x8 x9 ([] : List S_api_Entry) c e ([] : List S_api_Last) d f ([] : List S_api_Item) none 0 0 30 3 0 2 0 0 0 1 0 5 1 0 0 0 0 0 0 0 0 0 0 0 0 false 0 (ByteArray.mk #[]) 0 0 (ByteArray.mk #[]) 0 0 2 (ByteArray.mk #[97]) (some (Addr.mk (b 3).x 0 none)) 1 [(120 : UInt8)] 0 0 0 ao))))) [9,2] [10,11,12,13,14,15,16,17,19,20,18,2] [26,27] [] ⟨rV 3 (.osl x6 x7 3 1 [[vI 1]]) Cov.osl_rd,rV 4 (o31 x8 x9 ([] : List S_api_Entry)) Cov.osl_rd,rV 5 (o94 c e ([] : List S_api_Last)) Cov.osl_rd,rV 6 (o91 d f ([] : List S_api_Item)) Cov.osl_rd,rV 7 (o5 (some (Addr.mk (b 3).x 0 none)) 1 [(120 : UInt8)]) Cov.osl_rd,trivial⟩ ?_
     rintro ⟨_,_,_,⟨q,K,N,O,P,Q,r,s,o,J,G,j,k,l,m,n,u,z,C,D,H⟩,_⟩
     refine GR.du 2 [28] (fun L => [(4,pA ((L 3).x) 0)]) [4,5,6,7] (fun L => [(21,.cells ((L 3).x) 68 (kc62 a.d0 a.d1 a.d2 q a.d3.length K N a.d4.length O P a.d5.length Q a.d6 a.d7 a.d8 a.d9 a.d10 a.d11 r s))]) [(3,hN 21),(4,hS 21)] (fun L => [qE ((L 3).x),qE true]) (fun L => ?_)
     refine GR.dm ?_
     refine GS.seq ?_
     refine GS.seq ?_
     refine jn_elim hm (fun a8 ay hm => ?_)
     refine GS.cu (ι := Bool) (fun (ak : Bool) => a8 ak = some y) [] (fun (ak : Bool) => [(54,.bool ak)]) [] (fun (ak : Bool) => []) ?_ ?_
     rotate_left
     ·intro az
      refine br_elim hm (fun av hm => ?_) (fun av hm => ?_)
      ·skip
       refine GS.eg [] [(54,.bool true)] [] [] [(1,hL 21 0 0),(5,hL 21 0 0),(8,hP (.bool true))] [qE ((L 3).x),qE ((L 3).x),⟨bool_eq av⟩] ?_
       exact GS.rs (az true hm)
      ·skip
       refine bnd_elim hm (fun bg a9 hm => ?_)
       refine GS.eg [] [(54,.bool false)] [] [] [(1,hL 21 0 0),(5,hL 21 0 0),(8,hP (.bool false)),(10,hL 21 0 0),(16,hL 21 0 0),(17,hA (.idx 13 0)),(19,hR 13 0 0 (kc76 a.d12 a.d13 a.d14 a.d15)),(24,hC [2,18] (.bool false))] [qE ((L 3).x),qE ((L 3).x),⟨bool_eq av⟩,qE ((L 3).x),qE ((L 3).x),qE r,qE (([(kc76 a.d12 a.d13 a.d14 a.d15)] : List (List Value)).length),qE (0 : Int),⟨((Nat.le_of_ble_eq_true rfl) : 0 < 1)⟩,qE (blk r),qE (offs r + 0 * 46),qE (some (kc76 a.d12 a.d13 a.d14 a.d15)),⟨(w___primary_Machine__Idle F x5 (vI 1) (vI 0) (vI 3) (vI 0) (vI 9) (.slice x6 1 x7) (vI a.d16) (vI a.d17) (vI a.d18) (.slice o a.d19.length J) (.slice G a.d20.length j) (.slice k a.d21.length l) (.slice m 0 n) u (vI 30) (vI 3) (vI 0) (vI 2) (vI 0) (vI 0) (vI 0) (vI 1) (vI 0) (vI 5) (vI 1) (vI 0) (.slice none 0 0) (.slice none 0 0) (.slice none 0 0) (vI 0) (vI 0) (vI 0) (vI 0) (vI 0) (vI 0) (vI 0) (vI 0) (vI 0) (.slice none 0 0) (.slice none 0 0) (.slice none 0 0) (vI 0) (vI 0) (.bool false) (vI 0) (.string (ByteArray.mk #[])) (vI 0) (vI 0) (.string (ByteArray.mk #[])) (vI 0) (vI 0) (.slice none 0 0) (vI 2) (.string (ByteArray.mk #[97])) (.slice z a.d22.length C) (vI 0) (vI 0) (.slice none 0 0) (.slice none 0 0) (vI 0) (.bool true) (vI a.d12) (vI a.d13) (.bool a.d14) (vI a.d15) (.string (ByteArray.mk #[97])) (vI 5) (vI 1) (.string (ByteArray.mk #[])) (vI 0) (vI 0) (.slice none 0 0) (vI 0) (.slice D 1 H) (.bool false) (.bool false) (vI 0) a9).ok (es := [some (.cells x5 80 (kc75 x6 x7 a.d16 a.d17 a.d18 o a.d19.length J G a.d20.length j k a.d21.length l m n u)),some (.cells u 104 (kc77 z a.d22.length C a.d12 a.d13 a.d14 a.d15 D H))]) ⟨(.inl ⟨_,mm1,Cov.cells_rd⟩),(.inl ⟨_,mm0,Cov.cells_rd⟩),trivial⟩⟩] ?_
       exact GS.rs (az false hm)
     ·rintro ak hm
      replace hm := (ay _).symm.trans hm
      try dsimp only at hm
      refine GS.cd ak (fun aw => ?_) (fun aw => ?_)
      ·replace hm := br_t aw hm
       refine GS.seq ?_
       refine GS.eg [1,4,54] [(0,.bool false)] [2,3,10,11,12,13,14,15,16,17,18,19,20,21] [] [] [] ?_
       have hy := Option.some.inj hm
       subst hy
       exact GS.rv [0] [] Tryz.func7 () []
      ·replace hm := br_f aw hm
       refine GS.skip ?_
       refine GS.seq ?_
       refine GS.kn (p := D.isNone = false) 20 (.osl D H 3 1 [[vI 1]]) (fun w hw => ne_osl hw) (fun bh => ?_)
       refine GS.kn (p := 1 ≤ H) 20 (.osl D H 3 1 [[vI 1]]) (fun w hw => hw.1.1) (fun ba => ?_)
       refine bnd_elim hm (fun B bb hm => ?_)
       refine GS.open_ ?_
       refine GR.eu 10 [4,54] [(55,pA x5 0),(64,.agg ((kc84 a.d12 a.d13 a.d14 a.d15)).toArray)] [10,11,12,13,21] [] [(5,hL 21 0 0),(6,hA (.idx 13 0)),(8,hR 13 0 27 (kc76 a.d12 a.d13 a.d14 a.d15))] [qE ((L 3).x),qE r,qE (([(kc76 a.d12 a.d13 a.d14 a.d15)] : List (List Value)).length),qE (0 : Int),⟨((Nat.le_of_ble_eq_true rfl) : 0 < 1)⟩,qE (blk r),⟨((Nat.add_assoc ..) : offs r + 0 * 46 + 27 = offs r + (0 * 46 + 27))⟩,qE (some (kc76 a.d12 a.d13 a.d14 a.d15))] ?_
       refine GR.cg (w___primary_Machine__Step_3 F x5 x6 x7 a.d16 a.d17 a.d18 o J a.d19 G j a.d20 k l a.d21 m n u 30 3 0 2 0 0 0 1 0 5 1 0 0 0 0 0 0 0 0 0 0 0 0 false 0 (ByteArray.mk #[]) 0 0 (ByteArray.mk #[]) 0 0 2 (ByteArray.mk #[97]) z C a.d22 0 0 0 a.d12 a.d13 a.d14 a.d15 (ByteArray.mk #[97]) 5 1 (ByteArray.mk #[]) 0 0 0 D H 0 2 1 2 0 0 3 1 0 0 0 0 0 0 0 0 0 0 0 0 0 a.d12 a.d13 a.d14 a.d15 (ByteArray.mk #[97]) 5 1 (ByteArray.mk #[]) 0 0 0 (ByteArray.mk #[]) 0 0 0 ba bb) [20,18,2] [22,20,18,2] [55,64] [] ⟨rV 3 (.osl x6 x7 3 1 [[vI 1]]) Cov.osl_rd,rV 14 (o31 o J a.d19) Cov.osl_rd,rV 15 (o94 G j a.d20) Cov.osl_rd,rV 16 (o91 k l a.d21) Cov.osl_rd,rV 17 (.osl m n 65 46 []) Cov.osl_rd,rV 19 (o5 z C a.d22) Cov.osl_rd,trivial⟩ ?_
       rintro ⟨U,al⟩
       refine GR.du 2 [65] (fun W => [(5,pA ((W 11).x) 0)]) [18,19,20] (fun W => [(23,.cells ((W 11).x) 68 (kc30 U al))]) [(11,hN 23),(12,hS 23)] (fun W => [qE ((W 11).x),qE true]) (fun W => ?_)
       refine GR.dm ?_
       refine GS.seq ?_
       refine br_elim hm (fun ax hm => ?_) (fun ax hm => ?_)
       ·skip
        refine bnd_elim hm (fun bi bc hm => ?_)
        refine GS.eg [1,5] [(0,.bool true)] [2,3,14,15,16,17,22,23] [] [(1,hL 23 0 0),(6,hL 23 0 0),(7,hA (.idx 22 0)),(9,hR 22 0 0 (kc70 B.a0 B.a1 B.a2 a.d15)),(14,hL 23 0 0),(15,hA (.idx 22 0)),(17,hR 22 0 45 (kc70 B.a0 B.a1 B.a2 a.d15)),(20,hP (.bool true)),(22,hC [2] (.bool true))] [qE ((W 11).x),qE ((W 11).x),qE U,qE (([(kc70 B.a0 B.a1 B.a2 a.d15)] : List (List Value)).length),qE (0 : Int),⟨((Nat.le_of_ble_eq_true rfl) : 0 < 1)⟩,qE (blk U),qE (offs U + 0 * 46),qE (some (kc70 B.a0 B.a1 B.a2 a.d15)),qE ((W 11).x),qE U,qE (([(kc70 B.a0 B.a1 B.a2 a.d15)] : List (List Value)).length),qE (0 : Int),⟨((Nat.le_of_ble_eq_true rfl) : 0 < 1)⟩,qE (blk U),⟨((Nat.add_assoc ..) : offs U + 0 * 46 + 45 = offs U + (0 * 46 + 45))⟩,qE (some (kc70 B.a0 B.a1 B.a2 a.d15)),⟨bool_eq ax⟩,⟨(w___primary_Machine__Idle_2 F x5 (vI 1) (vI 0) (vI 3) (vI 0) (vI 9) (.slice x6 1 x7) (vI a.d16) (vI a.d17) (vI a.d18) (.slice o a.d19.length J) (.slice G a.d20.length j) (.slice k a.d21.length l) (.slice m 0 n) (.bool false) (vI 0) bc).ok (es := [some (.cells x5 80 (kc86 x6 x7 a.d16 a.d17 a.d18 o a.d19.length J G a.d20.length j k a.d21.length l m n))]) ⟨(.inl ⟨_,mm0,Cov.cells_rd⟩),trivial⟩⟩] ?_
        have hy := Option.some.inj hm
        subst hy
        exact GS.rv [0] [] Tryz.func7 () []
       ·skip
        refine GS.eg [1,5] [(0,.bool false)] [2,3,14,15,16,17,22,23] [] [(1,hL 23 0 0),(6,hL 23 0 0),(7,hA (.idx 22 0)),(9,hR 22 0 0 (kc70 B.a0 B.a1 B.a2 a.d15)),(14,hL 23 0 0),(15,hA (.idx 22 0)),(17,hR 22 0 45 (kc70 B.a0 B.a1 B.a2 a.d15)),(20,hP (.bool false))] [qE ((W 11).x),qE ((W 11).x),qE U,qE (([(kc70 B.a0 B.a1 B.a2 a.d15)] : List (List Value)).length),qE (0 : Int),⟨((Nat.le_of_ble_eq_true rfl) : 0 < 1)⟩,qE (blk U),qE (offs U + 0 * 46),qE (some (kc70 B.a0 B.a1 B.a2 a.d15)),qE ((W 11).x),qE U,qE (([(kc70 B.a0 B.a1 B.a2 a.d15)] : List (List Value)).length),qE (0 : Int),⟨((Nat.le_of_ble_eq_true rfl) : 0 < 1)⟩,qE (blk U),⟨((Nat.add_assoc ..) : offs U + 0 * 46 + 45 = offs U + (0 * 46 + 45))⟩,qE (some (kc70 B.a0 B.a1 B.a2 a.d15)),⟨bool_eq ax⟩] ?_
        have hy := Option.some.inj hm
        subst hy
        exact GS.rv [0] [] Tryz.func7 () []
    ·skip
     refine GS.open_ ?_
     refine GR.eu 2 [3] [(26,pA x5 0),(27,.agg ((kc10 (some (Addr.mk (b 3).x 0 none)) ([(120 : UInt8)].length))).toArray)] [8] [] [(1,hL 8 0 0)] [qE ((b 7).x)] ?_
     refine GR.cg (CallG.fF au (CallG.fF aq (CallG.fF ap (CallG.fF an (w___primary_Machine__Step F x5 x6 x7 3 0 0 x8 x9 ([] : List S_api_Entry) c e ([] : List S_api_Last) d f ([] : List S_api_Item) none 0 0 30 3 0 2 0 0 0 1 0 5 1 0 0 0 0 0 0 0 0 0 0 0 0 false 0 (ByteArray.mk #[]) 0 0 (ByteArray.mk #[]) 0 0 2 (ByteArray.mk #[97]) (some (Addr.mk (b 3).x 0 none)) 1 [(120 : UInt8)] 0 0 0 ao))))) [9,2] [10,11,13,14,12,2] [26,27] [] ⟨rV 3 (.osl x6 x7 3 1 [[vI 1]]) Cov.osl_rd,rV 4 (o31 x8 x9 ([] : List S_api_Entry)) Cov.osl_rd,rV 5 (o94 c e ([] : List S_api_Last)) Cov.osl_rd,rV 6 (o91 d f ([] : List S_api_Item)) Cov.osl_rd,rV 7 (o5 (some (Addr.mk (b 3).x 0 none)) 1 [(120 : UInt8)]) Cov.osl_rd,trivial⟩ ?_
     rintro ⟨_,_,_,_,⟨q,K,N,O,P,Q,r,s,o⟩⟩
     refine GR.du 2 [28] (fun ah => [(4,pA ((ah 3).x) 0)]) [7] (fun ah => [(15,.cells ((ah 3).x) 68 (kc30 q K))]) [(3,hN 15),(4,hS 15)] (fun ah => [qE ((ah 3).x),qE true]) (fun ah => ?_)
     refine GR.dm ?_
     refine GS.seq ?_
     refine GS.seq ?_
     refine GS.eg [] [(54,.bool true)] [] [] [(1,hL 15 0 0)] [qE ((ah 3).x)] ?_
     refine GS.cT ?_
     refine GS.seq ?_
     refine GS.eg [1,4,54] [(0,.bool false)] [2,3,4,5,6,10,11,12,13,14,15] [] [] [] ?_
     have hy := Option.some.inj hm
     subst hy
     exact GS.rv [0] [] Tryz.func7 () []

theorem w_tholeref01_Crc (F : Nat) (c : Option Addr) (e : Nat) (a0 : List UInt8) {y : Int} (hm : m_tholeref01_Crc F a0 = some y) : CallG Tryz.prog 17 #[.slice c a0.length e] (X := Unit) (fun (_ : Unit) => .int .u32 y) [] [r5 c a0] (fun (_ : Unit) => []) := by
 rw [m_tholeref01_Crc] at hm
 refine GS.st Tryz.func17 Tryz.ntmps17 (fun w => ?_)
 refine GS.seq ?_
 refine GS.ez [] [] [] ?_
 refine GS.seq ?_
 refine GS.ez [] [(3,.int .u32 4294967295)] [] ?_
 refine GS.seq ?_
 refine GS.seq ?_
 refine GS.ez [0] [(8,.slice c a0.length e),(9,vI (a0.length : Int)),(10,vI 0)] [] ?_
 refine GS.block ?_
 refine GS.loop ?_
 refine grd_elim hm (fun q hm => ?_)
 refine loopL_elim hm (fun st223 fn224 hst225 hfn226 hm => ?_)
 refine GS.li (ι := List UInt8 × Int × Nat) (fun ⟨i,h,a⟩ => a0.drop a = i ∧ loopL st223 fn224 i a h = some y) (fun ⟨i,h,a⟩ => i.length) [] (fun ⟨i,h,a⟩ => [(3,.int .u32 h),(10,vI (a : Int))]) [] (fun ⟨i,h,a⟩ => []) ?_ ⟨a0,4294967295,0⟩ ⟨List.drop_zero ..,hm⟩
 rintro ⟨i,h,a⟩ ⟨j,hm⟩ p
 cases i with
 | nil =>
  replace hm := (hfn226 _ _).symm.trans hm
  try dsimp only at hm
  refine GS.seq ?_
  refine GS.ez [] [(11,.bool (decide ((a : Int) < (a0.length : Int))))] [] ?_
  refine GS.seq ?_
  refine GS.cd (decide ((a : Int) < (a0.length : Int))) (fun r => absb r (drop_dec0 j)) (fun _ => ?_)
  refine GS.exit rfl ?_
  refine GS.seq ?_
  refine GS.eg [3,8,9,10,11] [(2,.int .u32 (ixor .u32 h 4294967295))] [1] [] [] [] ?_
  have hy := Option.some.inj hm
  subst hy
  exact GS.rv [0] [] Tryz.func17 () []
 | cons f i =>
  replace hm := (hst225 _ _ _ _).symm.trans hm
  try dsimp only at hm
  refine GS.seq ?_
  refine GS.ez [] [(11,.bool (decide ((a : Int) < (a0.length : Int))))] [] ?_
  refine GS.seq ?_
  refine GS.cd (decide ((a : Int) < (a0.length : Int))) (fun _ => ?_) (fun s => absb (drop_dec j) s)
  refine GS.skip ?_
  refine GS.seq ?_
  refine GS.block ?_
  refine GS.seq ?_
  refine GS.eg [11] [(5,.int .u8 (f.toNat : Int))] [] [] [(0,hA (.idx 1 a)),(1,hR 1 a 0 [.int .u8 (f.toNat : Int)])] [qE c,⟨(mlen rB a0 : a0.length = (List.map rB a0).length)⟩,qE (a : Int),⟨((drop_lt j) : a < a0.length)⟩,qE (blk c),qE (offs c + a * 1),⟨(map_drop rB j : (List.map rB a0)[a]? = some [.int .u8 (f.toNat : Int)])⟩] ?_
  refine GS.seq ?_
  refine GS.ez [] [(6,vI 0)] [] ?_
  refine GS.block ?_
  refine GS.loop ?_
  refine grd_elim hm (fun o hm => ?_)
  refine loopC_elim hm (fun st213 fn214 hst215 hfn216 hm => ?_)
  refine GS.li (ι := Nat × Int × Nat) (fun ⟨g,d,b⟩ => ((8) - (b : Int) : Int).toNat = g ∧ loopC st213 fn214 g b d = some y) (fun ⟨g,d,b⟩ => g) [] (fun ⟨g,d,b⟩ => [(3,.int .u32 d),(6,vI (b : Int))]) [] (fun ⟨g,d,b⟩ => []) ?_ ⟨(Int.toNat (8 - (0 : Int))),h,0⟩ ⟨rfl,hm⟩
  rintro ⟨g,d,b⟩ ⟨k,hm⟩ m
  cases g with
  | zero =>
   replace hm := (hfn216 _ _).symm.trans hm
   try dsimp only at hm
   refine GS.seq ?_
   refine GS.seq ?_
   refine GS.ez [] [(15,.bool (decide ((b : Int) < 8)))] [] ?_
   refine GS.cd (decide ((b : Int) < 8)) (fun u => absb u (cnt0 k)) (fun _ => ?_)
   refine GS.exit rfl ?_
   refine GS.inBlock ?_
   refine GS.eg [5,6,15] [(10,vI ((a + 1 : Nat) : Int))] [] [] [(0,hP (vI ((a + 1 : Nat) : Int)))] [⟨(natw (drop_lt j) q : ((vI (IntKind.i64.wrap ((a : Int) + 1))) : Value) = vI ((a + 1 : Nat) : Int))⟩] ?_
   refine GS.inLoop ?_
   exact GS.rs (p ⟨i,d,a + 1⟩ ⟨drop_next j,hm⟩ (Nat.lt_succ_self _))
  | succ g =>
   replace hm := (hst215 _ _ _).symm.trans hm
   try dsimp only at hm
   refine GS.seq ?_
   refine GS.seq ?_
   refine GS.ez [] [(15,.bool (decide ((b : Int) < 8)))] [] ?_
   refine GS.cd (decide ((b : Int) < 8)) (fun _ => ?_) (fun v => absb (cnt1 k) v)
   refine GS.skip ?_
   refine GS.seq ?_
   refine GS.block ?_
   refine GS.seq ?_
   refine grd_elim hm (fun x hm => ?_)
   refine GS.eg [15] [(7,.int .u32 (iand .u32 (ixor .u32 d (IntKind.u32.wrap (Int.fdiv (f.toNat : Int) (2 ^ (min (Int.toNat (IntKind.u64.wrap (b : Int))) 8))))) 1))] [] [] [(4,hA (.shift))] [⟨x⟩] ?_
   refine GS.seq ?_
   refine bnd_elim hm (fun l z hm => ?_)
   refine GS.ve 7 (fun vhole : Int => .int .u32 vhole) (Option.some.inj z) ?_
   refine GS.ez [] [(3,.int .u32 (Int.fdiv d (2 ^ 1)))] [] ?_
   refine GS.seq ?_
   refine GS.ez [7] [(29,.bool (l == 1))] [] ?_
   refine GS.cd (l == 1) (fun n => ?_) (fun n => ?_)
   ·replace hm := br_t n hm
    refine GS.ez [29] [(3,.int .u32 (ixor .u32 (Int.fdiv d (2 ^ 1)) 2197175160))] [] ?_
    refine GS.inBlock ?_
    refine GS.eg [] [(6,vI ((b + 1 : Nat) : Int))] [] [] [(1,hP (vI ((b + 1 : Nat) : Int)))] [⟨(natwB (cnt1 k) o : ((vI (IntKind.i64.wrap ((b : Int) + 1))) : Value) = vI ((b + 1 : Nat) : Int))⟩] ?_
    refine GS.inLoop ?_
    exact GS.rs (m ⟨g,(ixor .u32 (Int.fdiv d (2 ^ 1)) 2197175160),b + 1⟩ ⟨cntN k,hm⟩ (Nat.lt_succ_self _))
   ·replace hm := br_f n hm
    refine GS.skip ?_
    refine GS.inBlock ?_
    refine GS.eg [29] [(6,vI ((b + 1 : Nat) : Int))] [] [] [(1,hP (vI ((b + 1 : Nat) : Int)))] [⟨(natwB (cnt1 k) o : ((vI (IntKind.i64.wrap ((b : Int) + 1))) : Value) = vI ((b + 1 : Nat) : Int))⟩] ?_
    refine GS.inLoop ?_
    exact GS.rs (m ⟨g,(Int.fdiv d (2 ^ 1)),b + 1⟩ ⟨cntN k,hm⟩ (Nat.lt_succ_self _))

end Go.Proofs.YtjnbkhnebmlilaaGreat
