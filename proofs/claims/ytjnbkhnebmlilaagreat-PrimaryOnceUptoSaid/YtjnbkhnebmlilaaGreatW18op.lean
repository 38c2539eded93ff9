/-
 CHAPTER 18o: the functions do what their models say (16).
-/
import Derived.Test.YtjnbkhnebmlilaaGreatE18o
import Derived.Test.YtjnbkhnebmlilaaGreatW18oa
import Derived.Test.YtjnbkhnebmlilaaGreatW18ob
import Derived.Test.YtjnbkhnebmlilaaGreatW18oo
set_option linter.unusedVariables false
set_option linter.unusedSimpArgs false
set_option maxRecDepth 100000
set_option maxHeartbeats 8000000
namespace Go.Proofs.YtjnbkhnebmlilaaGreat
open Go Go.RowKit Sx

theorem w___primary_Machine__done_6 (F a6 : Nat) (q : Option Addr) (a3 : Nat) (a7 a8 a9 : Int) (l : Option Addr) (a2 : Nat) (a1 : List S_api_Entry) (g : Option Addr) (ae : Nat) (u : List S_api_Last) (d : Option Addr) (v : Nat) (j : List S_api_Item) (i : Option Addr) (aq e : Nat) (ar m n au av aw ax ay az o h C D G H J K L O P Q R T : Int) (U : Bool) (V : Int) (W : ByteArray) (Y Z : Int) (aa : ByteArray) (ab ac r : Int) (p : ByteArray) (a : Option Addr) (k : Nat) (c : List UInt8) (z A ad af ag : Int) (ah : Bool) (ai : Int) (aj : ByteArray) (ak al : Int) (am : ByteArray) (an ao ap : Int) (b : Option Addr) (s : Nat) (a5 : Int) {y : R___primary_Machine__done_6} (hm : m___primary_Machine__done_6 F a7 a8 a9 a1 u j ar m n au av aw ax ay az o h C D G H J K L O P Q R T U V W Y Z aa ab ac r p c z A ad af ag ah ai aj ak al am an ao ap a5 = some y) : CallG Tryz.prog 69 #[pA a6 0,.agg ((kc13)).toArray] (X := (Option Addr × Nat) × (Option Addr × Nat × Option Addr × Nat) × Unit) (fun (x : (Option Addr × Nat) × (Option Addr × Nat × Option Addr × Nat) × Unit) => bif y.t == 0 then (fun ⟨⟨x0,x1⟩,_,_⟩ => .agg ((kc30 x0 x1)).toArray : (Option Addr × Nat) × (Option Addr × Nat × Option Addr × Nat) × Unit → Value) x else bif y.t == 1 then (fun ⟨_,⟨x0,x1,x2,x3⟩,_⟩ => .agg ((kc30 x0 x1)).toArray : (Option Addr × Nat) × (Option Addr × Nat × Option Addr × Nat) × Unit → Value) x else (fun ⟨_,_,_⟩ => .agg ((kc103 p)).toArray : (Option Addr × Nat) × (Option Addr × Nat × Option Addr × Nat) × Unit → Value) x) [.cells e 104 (kc98 ar m n au av aw ax ay az o h C D G H J K L O P Q R T U V W Y Z aa ab ac r p a c.length k z A ad af ag ah ai aj ak al am an ao ap b s),.cells a6 80 (kc39 q a3 a7 a8 a9 l a1.length a2 g u.length ae d j.length v i aq e a5)] [.rd q 1 [[vI 1]],r31 l a1,r94 g u,r91 d j,.rd i 46 [],r5 a c,.rd b 1 []] (fun (x : (Option Addr × Nat) × (Option Addr × Nat × Option Addr × Nat) × Unit) => bif y.t == 0 then (fun ⟨⟨x0,x1⟩,_,_⟩ => [.osl x0 x1 65 46 [(kc34 m n o h y.a0)],.cells e 104 (kc98 ar m n au av aw ax ay az o h C D G H J K L O P Q R T U V W Y Z aa ab ac r p a c.length k z A ad af ag ah ai aj ak al am an ao ap b s),.cells a6 80 (kc11 q a3 a7 a8 a9 l a1.length a2 g u.length ae d j.length v i aq a5)] : (Option Addr × Nat) × (Option Addr × Nat × Option Addr × Nat) × Unit → List Ent) x else bif y.t == 1 then (fun ⟨_,⟨x0,x1,x2,x3⟩,_⟩ => [o9 x2 x3 y.b0,.osl x0 x1 65 46 [(kc111 m n o h x2 y.b0.length x3)],.cells e 104 (kc98 ar m n au av aw ax ay az o h C D G H J K L O P Q R T U V W Y Z aa ab ac r p a c.length k z A ad af ag ah ai aj ak al am an ao ap b s),.cells a6 80 (kc11 q a3 a7 a8 a9 l a1.length a2 g u.length ae d j.length v i aq a5)] : (Option Addr × Nat) × (Option Addr × Nat × Option Addr × Nat) × Unit → List Ent) x else (fun ⟨_,_,_⟩ => [.cells e 104 (kc102 ar m n au av aw ax ay az o h C D G H J K L O P Q R T U V W Y Z aa ab ac r p a c.length k z A ad af ag ah ai aj ak al am an ao ap b s),.cells a6 80 (kc39 q a3 a7 a8 a9 l a1.length a2 g u.length ae d j.length v i aq e a5)] : (Option Addr × Nat) × (Option Addr × Nat × Option Addr × Nat) × Unit → List Ent) x) := by
 rw [m___primary_Machine__done_6] at hm
 refine GS.st Tryz.func69 Tryz.ntmps69 (fun w => ?_)
 refine GS.seq ?_
 refine GS.dg [1] (fun B => [(3,pA ((B 0).x) 0),(4,pA ((B 1).x) 0)]) [] (fun B => [(10,.cells ((B 0).x) 68 (kc13)),(11,.cells ((B 1).x) 68 (kc13))]) [(0,hN 10),(1,hN 11)] (fun B => []) (fun B => ?_)
 refine GS.seq ?_
 refine GS.eg [] [(5,pA e 0)] [] [] [(3,hL 2 0 0)] [qE a6] ?_
 refine GS.seq ?_
 refine GS.seq ?_
 refine GS.eg [] [(25,.bool false)] [] [] [(6,hL 1 0 0)] [qE e] ?_
 refine GS.cF ?_
 refine GS.skip ?_
 refine GS.seq ?_
 refine GS.dg [25] (fun bj => [(6,pA ((bj 5).x) 0)]) [] (fun bj => [(12,.cells ((bj 5).x) 34 (kc31 r p a c.length k z A))]) [(4,hL 1 0 0),(5,hN 12),(6,hS 12)] (fun bj => [qE e,qE ((bj 5).x),qE true]) (fun bj => ?_)
 refine GS.seq ?_
 refine GS.dg [] (fun bg => [(7,pA ((bg 1).x) 0)]) [] (fun bg => [(13,.cells ((bg 1).x) 65 (kc19))]) [(1,hN 13),(2,hS 13)] (fun bg => [qE ((bg 1).x),qE true]) (fun bg => ?_)
 refine GS.seq ?_
 refine jn_elim hm (fun bv bs hm => ?_)
 refine GS.cu (ι := Nat) (fun (ba : Nat) => bv ba = some y) [6] (fun (ba : Nat) => []) [12] (fun (ba : Nat) => [(13,.cells ((bg 1).x) 65 (kc20 (ba : Int)))]) ?_ ?_
 rotate_left
 ·intro bt
  refine GS.block ?_
  refine GS.seq ?_
  refine GS.eg [] [(53,.bool false)] [] [] [(3,hL 1 0 0)] [qE e] ?_
  refine GS.cF ?_
  refine GS.seq ?_
  refine GS.eg [53] [(79,.bool (r == 5))] [] [] [(1,hL 12 0 0)] [qE ((bj 5).x)] ?_
  refine GS.cd (r == 5) (fun h8 => ?_) (fun h8 => ?_)
  ·replace hm := br_t h8 hm
   refine GS.seq ?_
   refine GS.eg [6,79] [(87,.slice d j.length v),(88,vI (j.length : Int)),(89,vI 0)] [12] [] [(4,hL 2 0 0)] [qE a6] ?_
   refine GS.block ?_
   refine GS.loop ?_
   refine GS.an 14 9 1 ?_
   refine GS.cv [] [(13,.cells ((bg 1).x) 65 (kc99 none (([] : List ByteArray).length)))] ?_
   refine grd_elim hm (fun bw hm => ?_)
   refine loopL_elim hm (fun st39 fn40 hst41 hfn42 hm => ?_)
   refine GS.li (ι := List S_api_Item × Nat × List ByteArray × Option Addr × Nat) (fun ⟨bm,bd,a4,bb,bc⟩ => j.drop bd = bm ∧ loopL st39 fn40 bm bd a4 = some y) (fun ⟨bm,bd,a4,bb,bc⟩ => bm.length) [] (fun ⟨bm,bd,a4,bb,bc⟩ => [(89,vI (bd : Int))]) [] (fun ⟨bm,bd,a4,bb,bc⟩ => [(13,.cells ((bg 1).x) 65 (kc100 bb a4.length bc)),(14,o9 bb bc a4)]) ?_ ⟨j,0,([] : List ByteArray),none,0⟩ ⟨List.drop_zero ..,hm⟩
   rintro ⟨bm,bd,a4,bb,bc⟩ ⟨bn,hm⟩ bu
   cases bm with
   | nil =>
    replace hm := (hfn42 _ _).symm.trans hm
    try dsimp only at hm
    refine GS.seq ?_
    refine GS.ez [] [(90,.bool (decide ((bd : Int) < (j.length : Int))))] [] ?_
    refine GS.seq ?_
    refine GS.cd (decide ((bd : Int) < (j.length : Int))) (fun bx => absb bx (drop_dec0 bn)) (fun _ => ?_)
    refine GS.exit rfl ?_
    refine GS.inBlock ?_
    refine GS.seq ?_
    refine bnd_elim hm (fun b6 bz hm => ?_)
    refine GS.xg [5,7,87,88,89,90] (fun be => []) [13] (fun be => [(10,.cells ((B 0).x) 68 (kc30 ((be 10).ob) ((be 10).cap))),(16,.osl ((be 10).ob) ((be 10).cap) 65 46 ([(kc111 m n o h bb a4.length bc)] : List (List Value)))]) [(1,hL 10 0 0),(6,hL 1 0 0),(7,hL 13 0 0),(8,hC [2,8,14] (.agg ((kc111 m n o h bb a4.length bc)).toArray)),(9,hK (.new (.row 1 46)) 15),(10,{ act := .app (some 15),key := some 16,spf := some (fun f => .slice (f.ob) 1 (f.cap)) }),(12,hS 10)] (fun be => [qE ((B 0).x),qE e,qE ((bg 1).x),⟨(w___primary_Machine__answer_2 F a6 (.slice q 1 a3) (vI a7) (vI a8) (vI a9) (.slice l a1.length a2) (.slice g u.length ae) (.slice d j.length v) (.slice i 0 aq) (pA e 0) (.bool false) (vI a5) (.bool true) ar m n au av aw ax ay az o h C D G H J K L O P Q R T U V W Y Z aa ab ac r p a k c z A ad 0 0 0 0 0 0 0 0 0 0 0 0 0 0 0 0 0 0 0 0 0 0 0 false 0 (ByteArray.mk #[]) 0 0 (ByteArray.mk #[]) 0 0 0 (ByteArray.mk #[]) 0 0 bb bc a4 0 bz).ok (es := [some (.cells a6 80 (kc39 q a3 a7 a8 a9 l a1.length a2 g u.length ae d j.length v i aq e a5)),some (r5 a c),some (o9 bb bc a4)]) ⟨(.inl ⟨_,mm0,Cov.cells_rd⟩),(.inl ⟨_,mm1,Cov.refl _⟩),(.inl ⟨_,mm2,Cov.osl_rd⟩),trivial⟩⟩,qE (some (Addr.mk (be 9).x 0 none)),qE (([(kc111 m n o h bb a4.length bc)] : List (List Value)).length),qE 0,qE 0,⟨((show 1 * (552 + 1) ≤ 70368744177664 by decide) : ([(kc111 m n o h bb a4.length bc)] : List (List Value)).length * (552 + 1) ≤ 70368744177664)⟩,qE ((.slice ((be 10).ob) (0 + ([(kc111 m n o h bb a4.length bc)] : List (List Value)).length) ((be 10).cap)) : Value),qE ((B 0).x),qE true]) (fun be => ?_)
    refine GS.ce 16 (fun rr : List (List Value) => .osl ((be 10).ob) ((be 10).cap) 65 46 rr) (show ([(kc111 m n o h bb a4.length bc)] : List (List Value)) = ([(kc111 m n o h bb a4.length bc)] : List (List Value)) from rfl) ?_
    refine GS.seq ?_
    refine GS.eg [0] [] [] [(2,.cells a6 80 (kc11 q a3 a7 a8 a9 l a1.length a2 g u.length ae d j.length v i aq a5))] [(3,hS 2)] [qE a6,qE true] ?_
    refine GS.seq ?_
    refine GS.eg [3] [] [10] [(11,.cells ((B 1).x) 68 (kc30 ((be 10).ob) ((be 10).cap)))] [(0,hL 10 0 0),(1,hS 11)] [qE ((B 0).x),qE ((B 1).x),qE true] ?_
    have hy := Option.some.inj hm
    subst hy
    exact GS.rv [11] [qE ((B 1).x)] Tryz.func69 ⟨⟨none,0⟩,⟨(be 10).ob,(be 10).cap,bb,bc⟩,()⟩ [14,16,1,2]
   | cons bi bm =>
    replace hm := (hst41 _ _ _ _).symm.trans hm
    try dsimp only at hm
    refine GS.seq ?_
    refine GS.ez [] [(90,.bool (decide ((bd : Int) < (j.length : Int))))] [] ?_
    refine GS.seq ?_
    refine GS.cd (decide ((bd : Int) < (j.length : Int))) (fun _ => ?_) (fun b1 => absb (drop_dec bn) b1)
    refine GS.skip ?_
    refine GS.seq ?_
    refine GS.block ?_
    refine GS.seq ?_
    refine GS.dg [90] (fun bk => [(9,pA ((bk 2).x) 0)]) [] (fun bk => [(15,.cells ((bk 2).x) 91 (kc33 bi.Name bi.Version.Epoch bi.Version.N bi.Crc))]) [(0,hA (.idx 6 bd)),(1,hR 6 bd 0 [.string bi.Name,vI bi.Version.Epoch,vI bi.Version.N,.int .u32 bi.Crc]),(2,hN 15),(3,hS 15)] (fun bk => [qE d,⟨(mlen S_api_Item.row j : j.length = (List.map S_api_Item.row j).length)⟩,qE (bd : Int),⟨((drop_lt bn) : bd < j.length)⟩,qE (blk d),qE (offs d + bd * 4),⟨(map_drop S_api_Item.row bn : (List.map S_api_Item.row j)[bd]? = some [.string bi.Name,vI bi.Version.Epoch,vI bi.Version.N,.int .u32 bi.Crc])⟩,qE ((bk 2).x),qE true]) (fun bk => ?_)
    refine grd_elim hm (fun b2 hm => ?_)
    refine GS.dg [9] (fun bh => []) [15] (fun bh => [(13,.cells ((bg 1).x) 65 (kc100 ((bh 5).ob) ((a4 ++ [bi.Name]).length) ((bh 5).cap))),(14,.osl ((bh 5).ob) ((bh 5).cap) 9 1 ((List.map rS a4) ++ ([[.string bi.Name]] : List (List Value))))]) [(1,hL 13 0 0),(3,hL 15 0 0),(4,hK (.new (.row 1 1)) 16),(5,{ act := .app (some 16),key := some 14,spf := some (fun f => .slice (f.ob) ((a4 ++ [bi.Name]).length) (f.cap)) }),(7,hS 13)] (fun bh => [qE ((bg 1).x),qE ((bk 2).x),qE (some (Addr.mk (bh 4).x 0 none)),qE (([[.string bi.Name]] : List (List Value)).length),qE bb,qE bc,⟨(mlen rS a4 : a4.length = (List.map rS a4).length)⟩,⟨(appb b2 (mlen rS a4).symm (by rw [show ([[.string bi.Name]] : List (List Value)) = List.map rS [bi.Name] from rfl]; exact (mlen rS [bi.Name]).symm) : ((List.map rS a4).length + ([[.string bi.Name]] : List (List Value)).length) * (16 + 1) ≤ 70368744177664)⟩,⟨((by rw [show ([[.string bi.Name]] : List (List Value)) = List.map rS [bi.Name] from (show ([[.string bi.Name]] : List (List Value)) = List.map rS [bi.Name] from rfl)]; exact all_one rS _ (fun _ => rfl)) : ([[.string bi.Name]] : List (List Value)).flatten.all Value.oneCell' = true)⟩,⟨(slen (by simp) : ((.slice ((bh 5).ob) (a4.length + ([[.string bi.Name]] : List (List Value)).length) ((bh 5).cap)) : Value) = .slice ((bh 5).ob) ((a4 ++ [bi.Name]).length) ((bh 5).cap))⟩,qE ((bg 1).x),qE true]) (fun bh => ?_)
    refine GS.ce 14 (fun rr : List (List Value) => .osl ((bh 5).ob) ((bh 5).cap) 9 1 rr) (show (List.map rS a4) ++ ([[.string bi.Name]] : List (List Value)) = List.map rS (a4 ++ [bi.Name]) from (by rw [show List.map rS a4 = List.map rS a4 from rfl,show ([[.string bi.Name]] : List (List Value)) = List.map rS [bi.Name] from (show ([[.string bi.Name]] : List (List Value)) = List.map rS [bi.Name] from rfl)]; exact mapp rS _ _)) ?_
    refine GS.inBlock ?_
    refine GS.eg [] [(89,vI ((bd + 1 : Nat) : Int))] [] [] [(0,hP (vI ((bd + 1 : Nat) : Int)))] [⟨(natw (drop_lt bn) bw : ((vI (IntKind.i64.wrap ((bd : Int) + 1))) : Value) = vI ((bd + 1 : Nat) : Int))⟩] ?_
    refine GS.inLoop ?_
    exact GS.rs (bu ⟨bm,bd + 1,(a4 ++ [bi.Name]),(bh 5).ob,(bh 5).cap⟩ ⟨drop_next bn,hm⟩ (Nat.lt_succ_self _))
  ·replace hm := br_f h8 hm
   refine GS.seq ?_
   refine bnd_elim hm (fun bp b3 hm => ?_)
   refine GS.eg [79] [(101,.bool (!bp))] [] [] [(1,hL 12 0 0),(2,hC [] (.bool bp))] [qE ((bj 5).x),⟨(w_place_Good F p b3).ok (es := []) trivial⟩] ?_
   refine GS.cd (!bp) (fun bq => ?_) (fun bq => ?_)
   ·replace hm := br_t bq hm
    refine GS.eg [6,101] [] [12] [(13,.cells ((bg 1).x) 65 (kc101))] [(1,hS 13)] [qE ((bg 1).x),qE true] ?_
    refine GS.inBlock ?_
    exact GS.rs (bt 36 hm)
   ·replace hm := br_f bq hm
    refine GS.seq ?_
    refine GS.seq ?_
    refine bnd_elim hm (fun bl b4 hm => ?_)
    refine GS.xg [101] (fun bo => [(11,.bool bl.2)]) [] (fun bo => []) [(3,hL 2 0 0),(5,hL 12 0 0),(6,hC [4,5,6] (.tuple #[.agg ((kc33 bl.1.Name bl.1.Version.Epoch bl.1.Version.N bl.1.Crc)).toArray,.bool bl.2])),(10,hN 14),(11,hS 14)] (fun bo => [qE a6,qE ((bj 5).x),⟨(w_pglog_Find F a7 (S_api_Version.mk a8 a9) l a2 a1 g ae u d v j p b4).ok (es := [some (r31 l a1),some (r94 g u),some (r91 d j)]) ⟨(.inl ⟨_,mm0,Cov.refl _⟩),(.inl ⟨_,mm1,Cov.refl _⟩),(.inl ⟨_,mm2,Cov.refl _⟩),trivial⟩⟩,qE ((bo 10).x),qE true]) (fun bo => ?_)
    refine GS.seq ?_
    refine GS.ez [11] [(43,.bool bl.2)] [] ?_
    refine GS.cd bl.2 (fun br => ?_) (fun br => ?_)
    ·replace hm := br_t br hm
     refine GS.seq ?_
     refine GS.eg [0,5,7,43] [] [13] [(1,.cells e 104 (kc102 ar m n au av aw ax ay az o h C D G H J K L O P Q R T U V W Y Z aa ab ac r p a c.length k z A ad af ag ah ai aj ak al am an ao ap b s))] [(3,hS 1)] [qE e,qE true] ?_
     refine GS.seq ?_
     refine GS.yg [6] [] [12] [(10,.cells ((B 0).x) 68 (kc103 p))] [(1,hL 12 0 0),(3,hS 10),(5,hS 10)] [qE ((bj 5).x),qE ((B 0).x),qE true,qE ((B 0).x),qE true] ?_
     refine GS.seq ?_
     refine GS.eg [3] [] [10] [(11,.cells ((B 1).x) 68 (kc103 p))] [(0,hL 10 0 0),(1,hS 11)] [qE ((B 0).x),qE ((B 1).x),qE true] ?_
     have hy := Option.some.inj hm
     subst hy
     exact GS.rv [11] [qE ((B 1).x)] Tryz.func69 ⟨⟨none,0⟩,⟨none,0,none,0⟩,()⟩ [1,2]
    ·replace hm := br_f br hm
     refine GS.skip ?_
     refine GS.eg [6,43] [] [12] [(13,.cells ((bg 1).x) 65 (kc104))] [(1,hS 13)] [qE ((bg 1).x),qE true] ?_
     refine GS.inBlock ?_
     exact GS.rs (bt 2 hm)
 ·rintro ba hm
  replace hm := (bs _).symm.trans hm
  try dsimp only at hm
  refine GS.seq ?_
  refine bnd_elim hm (fun b7 b5 hm => ?_)
  refine GS.xg [5,7] (fun bf => []) [13] (fun bf => [(10,.cells ((B 0).x) 68 (kc30 ((bf 10).ob) ((bf 10).cap))),(18,.osl ((bf 10).ob) ((bf 10).cap) 65 46 ([(kc34 m n o h (ba : Int))] : List (List Value)))]) [(1,hL 10 0 0),(6,hL 1 0 0),(7,hL 13 0 0),(8,hC [2,8] (.agg ((kc34 m n o h (ba : Int))).toArray)),(9,hK (.new (.row 1 46)) 17),(10,{ act := .app (some 17),key := some 18,spf := some (fun f => .slice (f.ob) 1 (f.cap)) }),(12,hS 10)] (fun bf => [qE ((B 0).x),qE e,qE ((bg 1).x),⟨(w___primary_Machine__answer F a6 (.slice q 1 a3) (vI a7) (vI a8) (vI a9) (.slice l a1.length a2) (.slice g u.length ae) (.slice d j.length v) (.slice i 0 aq) (pA e 0) (.bool false) (vI a5) (.bool true) ar m n au av aw ax ay az o h C D G H J K L O P Q R T U V W Y Z aa ab ac r p a k c z A ad 0 0 0 0 0 0 0 0 0 0 0 0 0 0 0 0 0 0 0 0 0 0 0 false 0 (ByteArray.mk #[]) 0 0 (ByteArray.mk #[]) 0 0 0 (ByteArray.mk #[]) 0 0 (ba : Int) b5).ok (es := [some (.cells a6 80 (kc39 q a3 a7 a8 a9 l a1.length a2 g u.length ae d j.length v i aq e a5)),some (r5 a c)]) ⟨(.inl ⟨_,mm0,Cov.cells_rd⟩),(.inl ⟨_,mm1,Cov.refl _⟩),trivial⟩⟩,qE (some (Addr.mk (bf 9).x 0 none)),qE (([(kc34 m n o h (ba : Int))] : List (List Value)).length),qE 0,qE 0,⟨((show 1 * (552 + 1) ≤ 70368744177664 by decide) : ([(kc34 m n o h (ba : Int))] : List (List Value)).length * (552 + 1) ≤ 70368744177664)⟩,qE ((.slice ((bf 10).ob) (0 + ([(kc34 m n o h (ba : Int))] : List (List Value)).length) ((bf 10).cap)) : Value),qE ((B 0).x),qE true]) (fun bf => ?_)
  refine GS.ce 18 (fun rr : List (List Value) => .osl ((bf 10).ob) ((bf 10).cap) 65 46 rr) (show ([(kc34 m n o h (ba : Int))] : List (List Value)) = ([(kc34 m n o h (ba : Int))] : List (List Value)) from rfl) ?_
  refine GS.seq ?_
  refine GS.eg [0] [] [] [(2,.cells a6 80 (kc11 q a3 a7 a8 a9 l a1.length a2 g u.length ae d j.length v i aq a5))] [(3,hS 2)] [qE a6,qE true] ?_
  refine GS.seq ?_
  refine GS.eg [3] [] [10] [(11,.cells ((B 1).x) 68 (kc30 ((bf 10).ob) ((bf 10).cap)))] [(0,hL 10 0 0),(1,hS 11)] [qE ((B 0).x),qE ((B 1).x),qE true] ?_
  have hy := Option.some.inj hm
  subst hy
  exact GS.rv [11] [qE ((B 1).x)] Tryz.func69 ⟨⟨(bf 10).ob,(bf 10).cap⟩,⟨none,0,none,0⟩,()⟩ [18,1,2]

theorem w___primary_Machine__begin_3 (F C : Nat) (d : Option Addr) (l : Nat) (z A B : Int) (e : Option Addr) (m : Nat) (q : List S_api_Entry) (a : Option Addr) (f : Nat) (j : List S_api_Last) (b : Option Addr) (g : Nat) (k : List S_api_Item) (c : Option Addr) (h : Nat) (p : Int) (i : Option Addr) (v : Nat) (r s u n o : Int) {y : Unit} (hm : m___primary_Machine__begin_3 F z A B q j k p r s u n o = some y) : CallG Tryz.prog 46 #[pA C 0,.agg ((kc30 i v)).toArray] (X := Unit) (fun (_ : Unit) => .agg ((kc30 i v)).toArray) [] [.rd d 1 [[vI 1]],r31 e q,r94 a j,r91 b k,.rd c 46 [],.rd (some ⟨C,0,none⟩) 17 [(kc11 d l z A B e q.length m a j.length f b k.length g c h p)],.rd i 46 [(kc34 r s u n o)]] (fun (_ : Unit) => []) := by
 rw [m___primary_Machine__begin_3] at hm
 refine GS.st Tryz.func46 Tryz.ntmps46 (fun w => ?_)
 refine GS.seq ?_
 refine GS.dg [1] (fun D => [(3,pA ((D 0).x) 0),(4,pA ((D 1).x) 0)]) [] (fun D => [(8,.cells ((D 0).x) 68 (kc30 i v)),(9,.cells ((D 1).x) 68 (kc13))]) [(0,hN 8),(1,hN 9)] (fun D => []) (fun D => ?_)
 refine GS.seq ?_
 refine GS.block ?_
 refine GS.loop ?_
 refine GS.seq ?_
 refine GS.seq ?_
 refine GS.eg [] [(35,.bool false)] [] [] [(3,hR 6 0 13 (kc11 d l z A B e q.length m a j.length f b k.length g c h p)),(9,hR 6 0 14 (kc11 d l z A B e q.length m a j.length f b k.length g c h p)),(16,hR 6 0 12 (kc11 d l z A B e q.length m a j.length f b k.length g c h p))] [qE C,qE (offs (some ⟨C,0,none⟩) + (0 * 17 + 13)),qE (some (kc11 d l z A B e q.length m a j.length f b k.length g c h p)),qE C,qE (offs (some ⟨C,0,none⟩) + (0 * 17 + 14)),qE (some (kc11 d l z A B e q.length m a j.length f b k.length g c h p)),qE C,qE (offs (some ⟨C,0,none⟩) + (0 * 17 + 12)),qE (some (kc11 d l z A B e q.length m a j.length f b k.length g c h p))] ?_
 refine GS.cF ?_
 refine GS.exit rfl ?_
 refine GS.seq ?_
 refine GS.eg [0,3,35] [] [1,2,3,4,5,6,8] [(9,.cells ((D 1).x) 68 (kc30 i v))] [(0,hL 8 0 0),(1,hS 9)] [qE ((D 0).x),qE ((D 1).x),qE true] ?_
 have hy := Option.some.inj hm
 subst hy
 exact GS.rv [9] [qE ((D 1).x)] Tryz.func46 () []

theorem w___primary_Machine__begin_4 (F E : Nat) (f : Option Addr) (n : Nat) (B C D : Int) (g : Option Addr) (o : Nat) (s : List S_api_Entry) (b : Option Addr) (h : Nat) (l : List S_api_Last) (c : Option Addr) (i : Nat) (m : List S_api_Item) (d : Option Addr) (j : Nat) (r : Int) (k : Option Addr) (A : Nat) (u v z q : Int) (a : Option Addr) (p : Nat) (e : List ByteArray) {y : Unit} (hm : m___primary_Machine__begin_4 F B C D s l m r u v z q e = some y) : CallG Tryz.prog 46 #[pA E 0,.agg ((kc30 k A)).toArray] (X := Unit) (fun (_ : Unit) => .agg ((kc30 k A)).toArray) [] [.rd f 1 [[vI 1]],r31 g s,r94 b l,r91 c m,.rd d 46 [],.rd (some ⟨E,0,none⟩) 17 [(kc11 f n B C D g s.length o b l.length h c m.length i d j r)],r9 a e,.rd k 46 [(kc111 u v z q a e.length p)]] (fun (_ : Unit) => []) := by
 rw [m___primary_Machine__begin_4] at hm
 refine GS.st Tryz.func46 Tryz.ntmps46 (fun w => ?_)
 refine GS.seq ?_
 refine GS.dg [1] (fun G => [(3,pA ((G 0).x) 0),(4,pA ((G 1).x) 0)]) [] (fun G => [(9,.cells ((G 0).x) 68 (kc30 k A)),(10,.cells ((G 1).x) 68 (kc13))]) [(0,hN 9),(1,hN 10)] (fun G => []) (fun G => ?_)
 refine GS.seq ?_
 refine GS.block ?_
 refine GS.loop ?_
 refine GS.seq ?_
 refine GS.seq ?_
 refine GS.eg [] [(35,.bool false)] [] [] [(3,hR 6 0 13 (kc11 f n B C D g s.length o b l.length h c m.length i d j r)),(9,hR 6 0 14 (kc11 f n B C D g s.length o b l.length h c m.length i d j r)),(16,hR 6 0 12 (kc11 f n B C D g s.length o b l.length h c m.length i d j r))] [qE E,qE (offs (some ⟨E,0,none⟩) + (0 * 17 + 13)),qE (some (kc11 f n B C D g s.length o b l.length h c m.length i d j r)),qE E,qE (offs (some ⟨E,0,none⟩) + (0 * 17 + 14)),qE (some (kc11 f n B C D g s.length o b l.length h c m.length i d j r)),qE E,qE (offs (some ⟨E,0,none⟩) + (0 * 17 + 12)),qE (some (kc11 f n B C D g s.length o b l.length h c m.length i d j r))] ?_
 refine GS.cF ?_
 refine GS.exit rfl ?_
 refine GS.seq ?_
 refine GS.eg [0,3,35] [] [1,2,3,4,5,6,9] [(10,.cells ((G 1).x) 68 (kc30 k A))] [(0,hL 9 0 0),(1,hS 10)] [qE ((G 0).x),qE ((G 1).x),qE true] ?_
 have hy := Option.some.inj hm
 subst hy
 exact GS.rv [10] [qE ((G 1).x)] Tryz.func46 () []

theorem w___primary_Machine__begin_5 (F a3 : Nat) (h : Option Addr) (aj : Nat) (a0 a1 a2 : Int) (i : Option Addr) (ak : Nat) (al : List S_api_Entry) (d : Option Addr) (m : Nat) (k : List S_api_Last) (e : Option Addr) (n : Nat) (l : List S_api_Item) (f : Option Addr) (o j : Nat) (am an ao ap aq ar au av aw ax r s u v z A B C D E G H I : Int) (J : Bool) (K : Int) (L : ByteArray) (M O : Int) (P : ByteArray) (Q R T : Int) (a : ByteArray) (b : Option Addr) (p : Nat) (g : List UInt8) (U V W Y Z : Int) (aa : Bool) (ab : Int) (ac : ByteArray) (ad ae : Int) (af : ByteArray) (ag ah ai : Int) (c : Option Addr) (q : Nat) (ay : Int) {y : Unit} (hm : m___primary_Machine__begin_5 F a0 a1 a2 al k l am an ao ap aq ar au av aw ax r s u v z A B C D E G H I J K L M O P Q R T a g U V W Y Z aa ab ac ad ae af ag ah ai ay = some y) : CallG Tryz.prog 46 #[pA a3 0,.agg ((kc103 a)).toArray] (X := Unit) (fun (_ : Unit) => .agg ((kc103 a)).toArray) [] [.rd h 1 [[vI 1]],r31 i al,r94 d k,r91 e l,.rd f 46 [],r5 b g,.rd c 1 [],.rd (some ⟨j,0,none⟩) 61 [(kc102 am an ao ap aq ar au av aw ax r s u v z A B C D E G H I J K L M O P Q R T a b g.length p U V W Y Z aa ab ac ad ae af ag ah ai c q)],.rd (some ⟨a3,0,none⟩) 17 [(kc39 h aj a0 a1 a2 i al.length ak d k.length m e l.length n f o j ay)]] (fun (_ : Unit) => []) := by
 rw [m___primary_Machine__begin_5] at hm
 refine GS.st Tryz.func46 Tryz.ntmps46 (fun w => ?_)
 refine GS.seq ?_
 refine GS.dg [1] (fun az => [(3,pA ((az 0).x) 0),(4,pA ((az 1).x) 0)]) [] (fun az => [(10,.cells ((az 0).x) 68 (kc103 a)),(11,.cells ((az 1).x) 68 (kc13))]) [(0,hN 10),(1,hN 11)] (fun az => []) (fun az => ?_)
 refine GS.seq ?_
 refine GS.block ?_
 refine GS.loop ?_
 refine GS.seq ?_
 refine GS.seq ?_
 refine GS.eg [] [(35,.bool false)] [] [] [(3,hR 9 0 13 (kc39 h aj a0 a1 a2 i al.length ak d k.length m e l.length n f o j ay))] [qE a3,qE (offs (some ⟨a3,0,none⟩) + (0 * 17 + 13)),qE (some (kc39 h aj a0 a1 a2 i al.length ak d k.length m e l.length n f o j ay))] ?_
 refine GS.cF ?_
 refine GS.exit rfl ?_
 refine GS.seq ?_
 refine GS.eg [0,3,35] [] [1,2,3,4,5,6,7,8,9,10] [(11,.cells ((az 1).x) 68 (kc103 a))] [(0,hL 10 0 0),(1,hS 11)] [qE ((az 0).x),qE ((az 1).x),qE true] ?_
 have hy := Option.some.inj hm
 subst hy
 exact GS.rv [11] [qE ((az 1).x)] Tryz.func46 () []

end Go.Proofs.YtjnbkhnebmlilaaGreat
