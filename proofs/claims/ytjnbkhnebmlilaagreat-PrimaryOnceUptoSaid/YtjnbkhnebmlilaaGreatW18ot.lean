/-
 CHAPTER 18o: the functions do what their models say (20).
-/
import Derived.Test.YtjnbkhnebmlilaaGreatE18o
import Derived.Test.YtjnbkhnebmlilaaGreatW18oa
import Derived.Test.YtjnbkhnebmlilaaGreatW18ok
import Derived.Test.YtjnbkhnebmlilaaGreatW18ol
import Derived.Test.YtjnbkhnebmlilaaGreatW18om
import Derived.Test.YtjnbkhnebmlilaaGreatW18on
import Derived.Test.YtjnbkhnebmlilaaGreatW18oo
import Derived.Test.YtjnbkhnebmlilaaGreatW18oq
import Derived.Test.YtjnbkhnebmlilaaGreatW18or
import Derived.Test.YtjnbkhnebmlilaaGreatW18os
set_option linter.unusedVariables false
set_option linter.unusedSimpArgs false
set_option maxRecDepth 100000
set_option maxHeartbeats 8000000
namespace Go.Proofs.YtjnbkhnebmlilaaGreat
open Go Go.RowKit Sx

theorem w_tholelaw18_PrimaryOnce (F : Nat) (K : Option Addr) (a6 : Nat) (o : Hds) (a0 : List S_api_Op) (O : Option Addr) (a7 : Nat) (a1 : List Int) {y : Bool} (hm : m_tholelaw18_PrimaryOnce F a0 a1 = some y) : CallG Tryz.prog 4 #[.slice K a0.length a6,.slice O a1.length a7] (X := Unit) (fun (_ : Unit) => .bool y) [] [.rd K 5 (nrows nR34 o a0),Ent.all (nins nJ34 o a0),r66 O a1] (fun (_ : Unit) => []) := by
 rw [m_tholelaw18_PrimaryOnce] at hm
 refine GS.st Tryz.func4 Tryz.ntmps4 (fun w => ?_)
 refine GS.seq ?_
 refine GS.ez [] [] [] ?_
 refine GS.seq ?_
 refine bnd_elim hm (fun y3 e4 hm => ?_)
 refine GS.open_ ?_
 refine GR.du 3 [] (fun eo => [(21,.agg #[vI 1,vI 0]),(22,.slice (some (Addr.mk (eo 1).x 0 none)) 2 2),(23,.agg ((kc0)).toArray)]) [] (fun eo => [(4,.osl (some (Addr.mk (eo 1).x 0 none)) 2 3 1 [[vI 0],[vI 1]])]) [(1,hK (.new (.row 2 1)) 4)] (fun eo => []) (fun eo => ?_)
 refine GR.cg (w_primary_New F (some (Addr.mk (eo 1).x 0 none)) 2 e4) [] [5,6,7,8,9] [21,22,23] [] ⟨rV 4 (.osl (some (Addr.mk (eo 1).x 0 none)) 2 3 1 [[vI 0],[vI 1]]) Cov.osl_rd,trivial⟩ ?_
 rintro ⟨x5,x6,x7,x8,x9,de,dc,df,dd⟩
 refine GR.eu 5 [24] [(5,pA x5 0),(6,vI 0)] [4] [] [] [] ?_
 refine GR.dm ?_
 refine GS.seq ?_
 refine GS.seq ?_
 refine GS.ez [6] [(37,.bool (decide ((a0.length : Int) > 100)))] [] ?_
 refine GS.cd (decide ((a0.length : Int) > 100)) (fun fx => ?_) (fun fx => ?_)
 ·replace hm := br_t fx hm
  refine GS.seq ?_
  refine bnd_elim hm (fun fr gs hm => ?_)
  refine GS.eg [0,1,5,37] [(4,.bool fr)] [1,2,3,5,6,7,8,9] [] [(3,hC [] (.bool fr))] [⟨(w_tholelaw18_lives F  gs).ok (es := []) trivial⟩] ?_
  have hy := Option.some.inj hm
  subst hy
  exact GS.rv [0] [] Tryz.func4 () []
 ·replace hm := br_f fx hm
  refine GS.skip ?_
  refine GS.seq ?_
  refine GS.dg [37] (fun H => [(7,pA ((H 1).x) 0)]) [] (fun H => [(10,.cells ((H 1).x) 28 (kc0))]) [(1,hN 10),(2,hS 10)] (fun H => [qE ((H 1).x),qE true]) (fun H => ?_)
  refine GS.seq ?_
  refine GS.ez [] [(8,.slice none 0 0)] [] ?_
  refine GS.seq ?_
  refine GS.seq ?_
  refine GS.ez [0] [(44,.slice K a0.length a6),(45,vI (a0.length : Int)),(46,vI 0)] [] ?_
  refine GS.block ?_
  refine GS.loop ?_
  refine GS.cv [] [(5,.cells x5 80 (kc7 x6 x7 x8 (([] : List S_api_Entry).length) x9 de dc df dd)),(7,o31 x8 x9 ([] : List S_api_Entry))] ?_
  refine GS.cv [] [(5,.cells x5 80 (kc8 x6 x7 x8 (([] : List S_api_Entry).length) x9 de (([] : List S_api_Last).length) dc df dd)),(8,o94 de dc ([] : List S_api_Last))] ?_
  refine GS.cv [] [(5,.cells x5 80 (kc9 x6 x7 x8 (([] : List S_api_Entry).length) x9 de (([] : List S_api_Last).length) dc df (([] : List S_api_Item).length) dd)),(9,o91 df dd ([] : List S_api_Item))] ?_
  refine GS.an 11 65 46 ?_
  refine GS.an 12 31 7 ?_
  refine GS.cv [] [(10,.cells ((H 1).x) 28 (kc90 none (([] : List S_api_Entry).length)))] ?_
  refine GS.an 13 94 5 ?_
  refine GS.cv [] [(10,.cells ((H 1).x) 28 (kc91 none (([] : List S_api_Entry).length) none (([] : List S_api_Last).length)))] ?_
  refine GS.an 14 91 4 ?_
  refine GS.cv [] [(10,.cells ((H 1).x) 28 (kc92 none (([] : List S_api_Entry).length) none (([] : List S_api_Last).length) none (([] : List S_api_Item).length)))] ?_
  refine GS.kn 7 (o31 x8 x9 ([] : List S_api_Entry)) (fun _ => osl_len) (fun g9 => ?_)
  refine GS.kn 8 (o94 de dc ([] : List S_api_Last)) (fun _ => osl_len) (fun ha => ?_)
  refine GS.kn 9 (o91 df dd ([] : List S_api_Item)) (fun _ => osl_len) (fun hb => ?_)
  refine grd_elim hm (fun ff hm => ?_)
  refine GS.an 20002 65 46 ?_
  refine GS.setMem (fun w hw => hw.ae 20003 (bag (nins nI65 (fun _ => nilH) ([] : List S_api_Msg_m))) (emp_bag (fun e he => by cases he))) ?_
  refine GS.setMem (fun w hw => hw.da 20003 (bag (nins nI65 (fun _ => nilH) ([] : List S_api_Msg_m))) (Ent.all (nins nJ65 (fun _ => nilH) ([] : List S_api_Msg_m))) (Cov.bag_all (nins_cov nC65 _ _))) ?_
  refine GS.rd [(1,1),(2,2),(3,3),(5,5),(6,6),(7,7),(8,8),(9,9),(10,10),(11,11),(12,12),(13,13),(14,14),(20000,20002),(20001,20003)] [] [] [(1,.rd K 5 (nrows nR34 o a0)),(2,Ent.all (nins nJ34 o a0)),(3,r66 O a1),(5,.cells x5 80 (kc9 x6 x7 x8 (([] : List S_api_Entry).length) x9 de (([] : List S_api_Last).length) dc df (([] : List S_api_Item).length) dd)),(6,.osl x6 x7 3 1 [[vI 1]]),(7,o31 x8 x9 ([] : List S_api_Entry)),(8,o94 de dc ([] : List S_api_Last)),(9,o91 df dd ([] : List S_api_Item)),(10,.cells ((H 1).x) 28 (kc92 none (([] : List S_api_Entry).length) none (([] : List S_api_Last).length) none (([] : List S_api_Item).length))),(11,.osl none 0 65 46 []),(12,o31 none 0 ([] : List S_api_Entry)),(13,o94 none 0 ([] : List S_api_Last)),(14,o91 none 0 ([] : List S_api_Item)),(20000,.osl none 0 65 46 (nrows nR65 (fun _ => nilH) ([] : List S_api_Msg_m))),(20001,Ent.all (nins nJ65 (fun _ => nilH) ([] : List S_api_Msg_m)))] ?_
  refine loopL_elim hm (fun st1719 fn1720 hst1721 hfn1722 hm => ?_)
  refine GS.li (ι := List S_api_Op × Nat × Int × Int × Int × Int × Int × Int × Int × List S_api_Msg_m × List S_api_Entry × List S_api_Last × List S_api_Item × List S_api_Entry × List S_api_Last × List S_api_Item × Hds × Option Addr × Nat × Option Addr × Nat × Option Addr × Nat × Option Addr × Nat × Option Addr × Nat × Option Addr × Nat × Option Addr × Nat × Option Addr × Nat) (fun ⟨dr,d,ci,cj,ck,b1,bw,bx,bz,l,b5,b6,b7,bb,bc,bd,n,cy,cz,cb,b8,cc,b9,cd,ca,bp,bq,bh,be,bi,bf,bj,bg⟩ => a0.drop d = dr ∧ loopL st1719 fn1720 dr d (ci,cj,ck,b1,bw,bx,bz,l,b5,b6,b7,bb,bc,bd) = some y) (fun ⟨dr,d,ci,cj,ck,b1,bw,bx,bz,l,b5,b6,b7,bb,bc,bd,n,cy,cz,cb,b8,cc,b9,cd,ca,bp,bq,bh,be,bi,bf,bj,bg⟩ => dr.length) [] (fun ⟨dr,d,ci,cj,ck,b1,bw,bx,bz,l,b5,b6,b7,bb,bc,bd,n,cy,cz,cb,b8,cc,b9,cd,ca,bp,bq,bh,be,bi,bf,bj,bg⟩ => [(8,.slice cy l.length cz),(46,vI (d : Int))]) [] (fun ⟨dr,d,ci,cj,ck,b1,bw,bx,bz,l,b5,b6,b7,bb,bc,bd,n,cy,cz,cb,b8,cc,b9,cd,ca,bp,bq,bh,be,bi,bf,bj,bg⟩ => [(5,.cells x5 80 (kc11 x6 x7 ci cj ck cb b5.length b8 cc b6.length b9 cd b7.length ca bp bq b1)),(7,o31 cb b8 b5),(8,o94 cc b9 b6),(9,o91 cd ca b7),(10,.cells ((H 1).x) 28 (kc15 bw bx bz bh bb.length be bi bc.length bf bj bd.length bg)),(11,.osl bp bq 65 46 []),(12,o31 bh be bb),(13,o94 bi bf bc),(14,o91 bj bg bd),(20000,.osl cy cz 65 46 (nrows nR65 n l)),(20001,Ent.all (nins nJ65 n l))]) ?_ ⟨a0,0,3,0,0,0,3,0,0,([] : List S_api_Msg_m),([] : List S_api_Entry),([] : List S_api_Last),([] : List S_api_Item),([] : List S_api_Entry),([] : List S_api_Last),([] : List S_api_Item),(fun _ => nilH),none,0,x8,x9,de,dc,df,dd,none,0,none,0,none,0,none,0⟩ ⟨List.drop_zero ..,hm⟩
  rintro ⟨dr,d,ci,cj,ck,b1,bw,bx,bz,l,b5,b6,b7,bb,bc,bd,n,cy,cz,cb,b8,cc,b9,cd,ca,bp,bq,bh,be,bi,bf,bj,bg⟩ ⟨ds,hm⟩ fs
  cases dr with
  | nil =>
   replace hm := (hfn1722 _ _).symm.trans hm
   try dsimp only at hm
   refine GS.seq ?_
   refine GS.ez [] [(47,.bool (decide ((d : Int) < (a0.length : Int))))] [] ?_
   refine GS.seq ?_
   refine GS.cd (decide ((d : Int) < (a0.length : Int))) (fun fy => absb fy (drop_dec0 ds)) (fun _ => ?_)
   refine GS.exit rfl ?_
   refine GS.seq ?_
   refine bnd_elim hm (fun aa ey hm => ?_)
   refine bnd_elim hm (fun dx ez hm => ?_)
   refine br_elim hm (fun es hm => ?_) (fun es hm => ?_)
   ·skip
    refine bnd_elim hm (fun ei fg hm => ?_)
    refine br_elim hm (fun e2 hm => ?_) (fun e2 hm => ?_)
    ·skip
     refine bnd_elim hm (fun et fz hm => ?_)
     refine GS.xg [1,5,7,8,44,45,46,47] (fun J => [(4,.bool et)]) [1,2,3,5,6,7,8,9,10,11,12,13,14,20000,20001] (fun J => [(20005,bag [o31 (((J 1).xs.getD 0 (none,0)).1) (((J 1).xs.getD 1 (none,0)).2) aa.a3,o94 (((J 1).xs.getD 2 (none,0)).1) (((J 1).xs.getD 3 (none,0)).2) aa.a4,o91 (((J 1).xs.getD 4 (none,0)).1) (((J 1).xs.getD 5 (none,0)).2) aa.a5])]) [(1,hK (.calln [5,6,7,8,9,11] (fun f => .agg ((kc15 aa.a0 aa.a1 aa.a2 (f.xs.getD 0 (none,0)).1 aa.a3.length (f.xs.getD 1 (none,0)).2 (f.xs.getD 2 (none,0)).1 aa.a4.length (f.xs.getD 3 (none,0)).2 (f.xs.getD 4 (none,0)).1 aa.a5.length (f.xs.getD 5 (none,0)).2)).toArray) (fun f => bag [o31 (f.xs.getD 0 (none,0)).1 (f.xs.getD 1 (none,0)).2 aa.a3,o94 (f.xs.getD 2 (none,0)).1 (f.xs.getD 3 (none,0)).2 aa.a4,o91 (f.xs.getD 4 (none,0)).1 (f.xs.getD 5 (none,0)).2 aa.a5])) 20005),(2,hL 10 0 0),(3,hC [12,13,14,20005] (.bool dx)),(4,hP (.bool true)),(5,hL 10 0 0),(6,hC [12,13,14] (vI ei)),(9,hP (.bool true)),(10,hC [] (.bool et))] (fun J => [⟨((by have h1 := w___primary_Machine__State F x5 x6 x7 ci cj ck cb b8 b5 cc b9 b6 cd ca b7 bp bq b1 ey; exact CallG.toNB (efs := fun f => [o31 (f.xs.getD 0 (none,0)).1 (f.xs.getD 1 (none,0)).2 aa.a3,o94 (f.xs.getD 2 (none,0)).1 (f.xs.getD 3 (none,0)).2 aa.a4,o91 (f.xs.getD 4 (none,0)).1 (f.xs.getD 5 (none,0)).2 aa.a5]) h1 ⟨(.inl ⟨_,mm1,Cov.osl_rd⟩),(.inl ⟨_,mm2,Cov.osl_rd⟩),(.inl ⟨_,mm3,Cov.osl_rd⟩),(.inl ⟨_,mm4,Cov.osl_rd⟩),(.inl ⟨_,mm5,Cov.osl_rd⟩),(.inl ⟨_,mm0,Cov.cells_rd⟩),trivial⟩ (fun x => ⟨0,none,0,[(x.1,0),(none,x.2.1),(x.2.2.1,0),(none,x.2.2.2.1),(x.2.2.2.2.1,0),(none,x.2.2.2.2.2)],fun _ _ => (none,0)⟩) (fun _ => rfl) (fun _ => rfl) (fun _ => rfl)) : CallN Tryz.prog 22 #[pA x5 0] (fun f => .agg ((kc15 aa.a0 aa.a1 aa.a2 (f.xs.getD 0 (none,0)).1 aa.a3.length (f.xs.getD 1 (none,0)).2 (f.xs.getD 2 (none,0)).1 aa.a4.length (f.xs.getD 3 (none,0)).2 (f.xs.getD 4 (none,0)).1 aa.a5.length (f.xs.getD 5 (none,0)).2)).toArray) (fun f => bag [o31 (f.xs.getD 0 (none,0)).1 (f.xs.getD 1 (none,0)).2 aa.a3,o94 (f.xs.getD 2 (none,0)).1 (f.xs.getD 3 (none,0)).2 aa.a4,o91 (f.xs.getD 4 (none,0)).1 (f.xs.getD 5 (none,0)).2 aa.a5]) [some (.cells x5 80 (kc11 x6 x7 ci cj ck cb b5.length b8 cc b6.length b9 cd b7.length ca bp bq b1)),some (.osl x6 x7 3 1 [[vI 1]]),some (o31 cb b8 b5),some (o94 cc b9 b6),some (o91 cd ca b7),some (.osl bp bq 65 46 [])])⟩,qE ((H 1).x),⟨(w_tholeref13_Same F aa.a0 (S_api_Version.mk aa.a1 aa.a2) (((J 1).xs.getD 0 (none,0)).1) (((J 1).xs.getD 1 (none,0)).2) aa.a3 (((J 1).xs.getD 2 (none,0)).1) (((J 1).xs.getD 3 (none,0)).2) aa.a4 (((J 1).xs.getD 4 (none,0)).1) (((J 1).xs.getD 5 (none,0)).2) aa.a5 bw (S_api_Version.mk bx bz) bh be bb bi bf bc bj bg bd ez).ok (es := [some (o31 bh be bb),some (o94 bi bf bc),some (o91 bj bg bd),some (bag [o31 (((J 1).xs.getD 0 (none,0)).1) (((J 1).xs.getD 1 (none,0)).2) aa.a3,o94 (((J 1).xs.getD 2 (none,0)).1) (((J 1).xs.getD 3 (none,0)).2) aa.a4,o91 (((J 1).xs.getD 4 (none,0)).1) (((J 1).xs.getD 5 (none,0)).2) aa.a5])]) ⟨(.inl ⟨_,mm3,(Cov.trans (Cov.bag_mem mm0) Cov.osl_rd)⟩),(.inl ⟨_,mm3,(Cov.trans (Cov.bag_mem (mm1)) Cov.osl_rd)⟩),(.inl ⟨_,mm3,(Cov.trans (Cov.bag_mem (mm2)) Cov.osl_rd)⟩),(.inl ⟨_,mm0,Cov.osl_rd⟩),(.inl ⟨_,mm1,Cov.osl_rd⟩),(.inl ⟨_,mm2,Cov.osl_rd⟩),trivial⟩⟩,⟨bool_eq es⟩,qE ((H 1).x),⟨(w_tholeref13_Check F bw (S_api_Version.mk bx bz) bh be bb bi bf bc bj bg bd fg).ok (es := [some (o31 bh be bb),some (o94 bi bf bc),some (o91 bj bg bd)]) ⟨(.inl ⟨_,mm0,Cov.osl_rd⟩),(.inl ⟨_,mm1,Cov.osl_rd⟩),(.inl ⟨_,mm2,Cov.osl_rd⟩),trivial⟩⟩,⟨bool_eq e2⟩,⟨(w_tholelaw18_lives F  fz).ok (es := []) trivial⟩]) (fun J => ?_)
     refine GS.setMem (fun w hw => hw.ub 20005 [20006,20007,20008] [o31 (((J 1).xs.getD 0 (none,0)).1) (((J 1).xs.getD 1 (none,0)).2) aa.a3,o94 (((J 1).xs.getD 2 (none,0)).1) (((J 1).xs.getD 3 (none,0)).2) aa.a4,o91 (((J 1).xs.getD 4 (none,0)).1) (((J 1).xs.getD 5 (none,0)).2) aa.a5]) ?_
     have hy := Option.some.inj hm
     subst hy
     exact GS.rv [0] [] Tryz.func4 () []
    ·skip
     refine GS.xg [1,5,7,8,44,45,46,47] (fun J => [(4,.bool false)]) [1,2,3,5,6,7,8,9,10,11,12,13,14,20000,20001] (fun J => [(20005,bag [o31 (((J 1).xs.getD 0 (none,0)).1) (((J 1).xs.getD 1 (none,0)).2) aa.a3,o94 (((J 1).xs.getD 2 (none,0)).1) (((J 1).xs.getD 3 (none,0)).2) aa.a4,o91 (((J 1).xs.getD 4 (none,0)).1) (((J 1).xs.getD 5 (none,0)).2) aa.a5])]) [(1,hK (.calln [5,6,7,8,9,11] (fun f => .agg ((kc15 aa.a0 aa.a1 aa.a2 (f.xs.getD 0 (none,0)).1 aa.a3.length (f.xs.getD 1 (none,0)).2 (f.xs.getD 2 (none,0)).1 aa.a4.length (f.xs.getD 3 (none,0)).2 (f.xs.getD 4 (none,0)).1 aa.a5.length (f.xs.getD 5 (none,0)).2)).toArray) (fun f => bag [o31 (f.xs.getD 0 (none,0)).1 (f.xs.getD 1 (none,0)).2 aa.a3,o94 (f.xs.getD 2 (none,0)).1 (f.xs.getD 3 (none,0)).2 aa.a4,o91 (f.xs.getD 4 (none,0)).1 (f.xs.getD 5 (none,0)).2 aa.a5])) 20005),(2,hL 10 0 0),(3,hC [12,13,14,20005] (.bool dx)),(4,hP (.bool true)),(5,hL 10 0 0),(6,hC [12,13,14] (vI ei)),(9,hP (.bool false))] (fun J => [⟨((by have h1 := w___primary_Machine__State F x5 x6 x7 ci cj ck cb b8 b5 cc b9 b6 cd ca b7 bp bq b1 ey; exact CallG.toNB (efs := fun f => [o31 (f.xs.getD 0 (none,0)).1 (f.xs.getD 1 (none,0)).2 aa.a3,o94 (f.xs.getD 2 (none,0)).1 (f.xs.getD 3 (none,0)).2 aa.a4,o91 (f.xs.getD 4 (none,0)).1 (f.xs.getD 5 (none,0)).2 aa.a5]) h1 ⟨(.inl ⟨_,mm1,Cov.osl_rd⟩),(.inl ⟨_,mm2,Cov.osl_rd⟩),(.inl ⟨_,mm3,Cov.osl_rd⟩),(.inl ⟨_,mm4,Cov.osl_rd⟩),(.inl ⟨_,mm5,Cov.osl_rd⟩),(.inl ⟨_,mm0,Cov.cells_rd⟩),trivial⟩ (fun x => ⟨0,none,0,[(x.1,0),(none,x.2.1),(x.2.2.1,0),(none,x.2.2.2.1),(x.2.2.2.2.1,0),(none,x.2.2.2.2.2)],fun _ _ => (none,0)⟩) (fun _ => rfl) (fun _ => rfl) (fun _ => rfl)) : CallN Tryz.prog 22 #[pA x5 0] (fun f => .agg ((kc15 aa.a0 aa.a1 aa.a2 (f.xs.getD 0 (none,0)).1 aa.a3.length (f.xs.getD 1 (none,0)).2 (f.xs.getD 2 (none,0)).1 aa.a4.length (f.xs.getD 3 (none,0)).2 (f.xs.getD 4 (none,0)).1 aa.a5.length (f.xs.getD 5 (none,0)).2)).toArray) (fun f => bag [o31 (f.xs.getD 0 (none,0)).1 (f.xs.getD 1 (none,0)).2 aa.a3,o94 (f.xs.getD 2 (none,0)).1 (f.xs.getD 3 (none,0)).2 aa.a4,o91 (f.xs.getD 4 (none,0)).1 (f.xs.getD 5 (none,0)).2 aa.a5]) [some (.cells x5 80 (kc11 x6 x7 ci cj ck cb b5.length b8 cc b6.length b9 cd b7.length ca bp bq b1)),some (.osl x6 x7 3 1 [[vI 1]]),some (o31 cb b8 b5),some (o94 cc b9 b6),some (o91 cd ca b7),some (.osl bp bq 65 46 [])])⟩,qE ((H 1).x),⟨(w_tholeref13_Same F aa.a0 (S_api_Version.mk aa.a1 aa.a2) (((J 1).xs.getD 0 (none,0)).1) (((J 1).xs.getD 1 (none,0)).2) aa.a3 (((J 1).xs.getD 2 (none,0)).1) (((J 1).xs.getD 3 (none,0)).2) aa.a4 (((J 1).xs.getD 4 (none,0)).1) (((J 1).xs.getD 5 (none,0)).2) aa.a5 bw (S_api_Version.mk bx bz) bh be bb bi bf bc bj bg bd ez).ok (es := [some (o31 bh be bb),some (o94 bi bf bc),some (o91 bj bg bd),some (bag [o31 (((J 1).xs.getD 0 (none,0)).1) (((J 1).xs.getD 1 (none,0)).2) aa.a3,o94 (((J 1).xs.getD 2 (none,0)).1) (((J 1).xs.getD 3 (none,0)).2) aa.a4,o91 (((J 1).xs.getD 4 (none,0)).1) (((J 1).xs.getD 5 (none,0)).2) aa.a5])]) ⟨(.inl ⟨_,mm3,(Cov.trans (Cov.bag_mem mm0) Cov.osl_rd)⟩),(.inl ⟨_,mm3,(Cov.trans (Cov.bag_mem (mm1)) Cov.osl_rd)⟩),(.inl ⟨_,mm3,(Cov.trans (Cov.bag_mem (mm2)) Cov.osl_rd)⟩),(.inl ⟨_,mm0,Cov.osl_rd⟩),(.inl ⟨_,mm1,Cov.osl_rd⟩),(.inl ⟨_,mm2,Cov.osl_rd⟩),trivial⟩⟩,⟨bool_eq es⟩,qE ((H 1).x),⟨(w_tholeref13_Check F bw (S_api_Version.mk bx bz) bh be bb bi bf bc bj bg bd fg).ok (es := [some (o31 bh be bb),some (o94 bi bf bc),some (o91 bj bg bd)]) ⟨(.inl ⟨_,mm0,Cov.osl_rd⟩),(.inl ⟨_,mm1,Cov.osl_rd⟩),(.inl ⟨_,mm2,Cov.osl_rd⟩),trivial⟩⟩,⟨bool_eq e2⟩]) (fun J => ?_)
     refine GS.setMem (fun w hw => hw.ub 20005 [20006,20007,20008] [o31 (((J 1).xs.getD 0 (none,0)).1) (((J 1).xs.getD 1 (none,0)).2) aa.a3,o94 (((J 1).xs.getD 2 (none,0)).1) (((J 1).xs.getD 3 (none,0)).2) aa.a4,o91 (((J 1).xs.getD 4 (none,0)).1) (((J 1).xs.getD 5 (none,0)).2) aa.a5]) ?_
     have hy := Option.some.inj hm
     subst hy
     exact GS.rv [0] [] Tryz.func4 () []
   ·skip
    refine GS.xg [1,5,7,8,44,45,46,47] (fun J => [(4,.bool false)]) [1,2,3,5,6,7,8,9,10,11,12,13,14,20000,20001] (fun J => [(20005,bag [o31 (((J 1).xs.getD 0 (none,0)).1) (((J 1).xs.getD 1 (none,0)).2) aa.a3,o94 (((J 1).xs.getD 2 (none,0)).1) (((J 1).xs.getD 3 (none,0)).2) aa.a4,o91 (((J 1).xs.getD 4 (none,0)).1) (((J 1).xs.getD 5 (none,0)).2) aa.a5])]) [(1,hK (.calln [5,6,7,8,9,11] (fun f => .agg ((kc15 aa.a0 aa.a1 aa.a2 (f.xs.getD 0 (none,0)).1 aa.a3.length (f.xs.getD 1 (none,0)).2 (f.xs.getD 2 (none,0)).1 aa.a4.length (f.xs.getD 3 (none,0)).2 (f.xs.getD 4 (none,0)).1 aa.a5.length (f.xs.getD 5 (none,0)).2)).toArray) (fun f => bag [o31 (f.xs.getD 0 (none,0)).1 (f.xs.getD 1 (none,0)).2 aa.a3,o94 (f.xs.getD 2 (none,0)).1 (f.xs.getD 3 (none,0)).2 aa.a4,o91 (f.xs.getD 4 (none,0)).1 (f.xs.getD 5 (none,0)).2 aa.a5])) 20005),(2,hL 10 0 0),(3,hC [12,13,14,20005] (.bool dx)),(4,hP (.bool false))] (fun J => [⟨((by have h1 := w___primary_Machine__State F x5 x6 x7 ci cj ck cb b8 b5 cc b9 b6 cd ca b7 bp bq b1 ey; exact CallG.toNB (efs := fun f => [o31 (f.xs.getD 0 (none,0)).1 (f.xs.getD 1 (none,0)).2 aa.a3,o94 (f.xs.getD 2 (none,0)).1 (f.xs.getD 3 (none,0)).2 aa.a4,o91 (f.xs.getD 4 (none,0)).1 (f.xs.getD 5 (none,0)).2 aa.a5]) h1 ⟨(.inl ⟨_,mm1,Cov.osl_rd⟩),(.inl ⟨_,mm2,Cov.osl_rd⟩),(.inl ⟨_,mm3,Cov.osl_rd⟩),(.inl ⟨_,mm4,Cov.osl_rd⟩),(.inl ⟨_,mm5,Cov.osl_rd⟩),(.inl ⟨_,mm0,Cov.cells_rd⟩),trivial⟩ (fun x => ⟨0,none,0,[(x.1,0),(none,x.2.1),(x.2.2.1,0),(none,x.2.2.2.1),(x.2.2.2.2.1,0),(none,x.2.2.2.2.2)],fun _ _ => (none,0)⟩) (fun _ => rfl) (fun _ => rfl) (fun _ => rfl)) : CallN Tryz.prog 22 #[pA x5 0] (fun f => .agg ((kc15 aa.a0 aa.a1 aa.a2 (f.xs.getD 0 (none,0)).1 aa.a3.length (f.xs.getD 1 (none,0)).2 (f.xs.getD 2 (none,0)).1 aa.a4.length (f.xs.getD 3 (none,0)).2 (f.xs.getD 4 (none,0)).1 aa.a5.length (f.xs.getD 5 (none,0)).2)).toArray) (fun f => bag [o31 (f.xs.getD 0 (none,0)).1 (f.xs.getD 1 (none,0)).2 aa.a3,o94 (f.xs.getD 2 (none,0)).1 (f.xs.getD 3 (none,0)).2 aa.a4,o91 (f.xs.getD 4 (none,0)).1 (f.xs.getD 5 (none,0)).2 aa.a5]) [some (.cells x5 80 (kc11 x6 x7 ci cj ck cb b5.length b8 cc b6.length b9 cd b7.length ca bp bq b1)),some (.osl x6 x7 3 1 [[vI 1]]),some (o31 cb b8 b5),some (o94 cc b9 b6),some (o91 cd ca b7),some (.osl bp bq 65 46 [])])⟩,qE ((H 1).x),⟨(w_tholeref13_Same F aa.a0 (S_api_Version.mk aa.a1 aa.a2) (((J 1).xs.getD 0 (none,0)).1) (((J 1).xs.getD 1 (none,0)).2) aa.a3 (((J 1).xs.getD 2 (none,0)).1) (((J 1).xs.getD 3 (none,0)).2) aa.a4 (((J 1).xs.getD 4 (none,0)).1) (((J 1).xs.getD 5 (none,0)).2) aa.a5 bw (S_api_Version.mk bx bz) bh be bb bi bf bc bj bg bd ez).ok (es := [some (o31 bh be bb),some (o94 bi bf bc),some (o91 bj bg bd),some (bag [o31 (((J 1).xs.getD 0 (none,0)).1) (((J 1).xs.getD 1 (none,0)).2) aa.a3,o94 (((J 1).xs.getD 2 (none,0)).1) (((J 1).xs.getD 3 (none,0)).2) aa.a4,o91 (((J 1).xs.getD 4 (none,0)).1) (((J 1).xs.getD 5 (none,0)).2) aa.a5])]) ⟨(.inl ⟨_,mm3,(Cov.trans (Cov.bag_mem mm0) Cov.osl_rd)⟩),(.inl ⟨_,mm3,(Cov.trans (Cov.bag_mem (mm1)) Cov.osl_rd)⟩),(.inl ⟨_,mm3,(Cov.trans (Cov.bag_mem (mm2)) Cov.osl_rd)⟩),(.inl ⟨_,mm0,Cov.osl_rd⟩),(.inl ⟨_,mm1,Cov.osl_rd⟩),(.inl ⟨_,mm2,Cov.osl_rd⟩),trivial⟩⟩,⟨bool_eq es⟩]) (fun J => ?_)
    refine GS.setMem (fun w hw => hw.ub 20005 [20006,20007,20008] [o31 (((J 1).xs.getD 0 (none,0)).1) (((J 1).xs.getD 1 (none,0)).2) aa.a3,o94 (((J 1).xs.getD 2 (none,0)).1) (((J 1).xs.getD 3 (none,0)).2) aa.a4,o91 (((J 1).xs.getD 4 (none,0)).1) (((J 1).xs.getD 5 (none,0)).2) aa.a5]) ?_
    have hy := Option.some.inj hm
    subst hy
    exact GS.rv [0] [] Tryz.func4 () []
  | cons B dr =>
   replace hm := (hst1721 _ _ _ _).symm.trans hm
   try dsimp only at hm
   refine GS.seq ?_
   refine GS.ez [] [(47,.bool (decide ((d : Int) < (a0.length : Int))))] [] ?_
   refine GS.seq ?_
   refine GS.cd (decide ((d : Int) < (a0.length : Int))) (fun _ => ?_) (fun f0 => absb (drop_dec ds) f0)
   refine GS.skip ?_
   refine GS.seq ?_
   refine GS.block ?_
   refine GS.seq ?_
   refine GS.kn (p := B.Data.length ≤ ((o d) 0).2) 2 (Ent.all (nins nJ34 o a0)) (fun w hw => ((Cov.all_mem (nins_drop nJ34 o ds ((.tail _ (.head _))))).1 w hw).1) (fun fh => ?_)
   refine GS.setMem (fun w hw => hw.ac 2 (Ent.all (nins nJ34 o a0)) 20002 (r5 (((o d) 0).1) B.Data) (Cov.all_mem (nins_drop nJ34 o ds mm0))) ?_
   refine GS.dg [47] (fun dj => [(9,vI (d : Int)),(10,pA ((dj 3).x) 0)]) [] (fun dj => [(20003,.cells ((dj 3).x) 34 (kc31 B.Kind B.Name (((o d) 0).1) B.Data.length (((o d) 0).2) B.Expect.Epoch B.Expect.N))]) [(1,hA (.idx 1 d)),(2,hR 1 d 0 [vI B.Kind,.string B.Name,.slice (((o d) 0).1) B.Data.length (((o d) 0).2),vI B.Expect.Epoch,vI B.Expect.N]),(3,hN 20003),(5,hS 20003)] (fun dj => [qE K,⟨((nrows_len nR34 o a0).symm : a0.length = (nrows nR34 o a0).length)⟩,qE (d : Int),⟨((drop_lt ds) : d < a0.length)⟩,qE (blk K),qE (offs K + d * 5),⟨(nrows_drop nR34 o ds : (nrows nR34 o a0)[d]? = some [vI B.Kind,.string B.Name,.slice (((o d) 0).1) B.Data.length (((o d) 0).2),vI B.Expect.Epoch,vI B.Expect.N])⟩,qE ((dj 3).x),qE true]) (fun dj => ?_)
   refine GS.seq ?_
   refine GS.dg [10] (fun cw => [(11,pA ((cw 7).x) 0)]) [20003] (fun cw => [(20004,.cells ((cw 7).x) 65 (kc118 ((d + 1 : Nat) : Int) B.Kind B.Name (((o d) 0).1) B.Data.length (((o d) 0).2) B.Expect.Epoch B.Expect.N))]) [(4,hP (vI ((d + 1 : Nat) : Int))),(5,hL 20003 0 0),(7,hN 20004),(8,hS 20004)] (fun cw => [⟨(natw (drop_lt ds) ff : ((vI (IntKind.i64.wrap ((d : Int) + 1))) : Value) = vI ((d + 1 : Nat) : Int))⟩,qE ((dj 3).x),qE ((cw 7).x),qE true]) (fun cw => ?_)
   refine GS.seq ?_
   refine grd_elim hm (fun f1 hm => ?_)
   refine GS.dg [] (fun j => [(8,.slice ((j 3).ob) ((l ++ [(S_api_Msg_m.mk 30 3 0 2 0 0 0 1 0 5 ((d + 1 : Nat) : Int) 0 0 0 0 0 0 0 0 0 0 0 0 false 0 (ByteArray.mk #[]) 0 0 (ByteArray.mk #[]) 0 0 B.Kind B.Name B.Data B.Expect.Epoch B.Expect.N 0)]).length) ((j 3).cap))]) [] (fun j => [(20000,.osl ((j 3).ob) ((j 3).cap) 65 46 ((nrows nR65 n l) ++ ([(kc118 ((d + 1 : Nat) : Int) B.Kind B.Name (((o d) 0).1) B.Data.length (((o d) 0).2) B.Expect.Epoch B.Expect.N)] : List (List Value))))]) [(1,hL 20004 0 0),(2,hK (.new (.row 1 46)) 20005),(3,{ act := .app (some 20005),key := some 20000,spf := some (fun f => .slice (f.ob) ((l ++ [(S_api_Msg_m.mk 30 3 0 2 0 0 0 1 0 5 ((d + 1 : Nat) : Int) 0 0 0 0 0 0 0 0 0 0 0 0 false 0 (ByteArray.mk #[]) 0 0 (ByteArray.mk #[]) 0 0 B.Kind B.Name B.Data B.Expect.Epoch B.Expect.N 0)]).length) (f.cap)) })] (fun j => [qE ((cw 7).x),qE (some (Addr.mk (j 2).x 0 none)),qE (([(kc118 ((d + 1 : Nat) : Int) B.Kind B.Name (((o d) 0).1) B.Data.length (((o d) 0).2) B.Expect.Epoch B.Expect.N)] : List (List Value)).length),qE cy,qE cz,⟨((nrows_len nR65 n l).symm : l.length = (nrows nR65 n l).length)⟩,⟨(appb (m := 1) f1 (nrows_len nR65 n l) rfl : ((nrows nR65 n l).length + ([(kc118 ((d + 1 : Nat) : Int) B.Kind B.Name (((o d) 0).1) B.Data.length (((o d) 0).2) B.Expect.Epoch B.Expect.N)] : List (List Value)).length) * (552 + 1) ≤ 70368744177664)⟩,qE true,⟨(slen (by simp [nrows_len]) : ((.slice ((j 3).ob) (l.length + ([(kc118 ((d + 1 : Nat) : Int) B.Kind B.Name (((o d) 0).1) B.Data.length (((o d) 0).2) B.Expect.Epoch B.Expect.N)] : List (List Value)).length) ((j 3).cap)) : Value) = .slice ((j 3).ob) ((l ++ [(S_api_Msg_m.mk 30 3 0 2 0 0 0 1 0 5 ((d + 1 : Nat) : Int) 0 0 0 0 0 0 0 0 0 0 0 0 false 0 (ByteArray.mk #[]) 0 0 (ByteArray.mk #[]) 0 0 B.Kind B.Name B.Data B.Expect.Epoch B.Expect.N 0)]).length) ((j 3).cap))⟩]) (fun j => ?_)
   refine GS.ce 20000 (fun rr : List (List Value) => .osl ((j 3).ob) ((j 3).cap) 65 46 rr) (show (nrows nR65 n l) ++ ([(kc118 ((d + 1 : Nat) : Int) B.Kind B.Name (((o d) 0).1) B.Data.length (((o d) 0).2) B.Expect.Epoch B.Expect.N)] : List (List Value)) = nrows nR65 (glueH l.length n (fun _ => (o d))) (l ++ [(S_api_Msg_m.mk 30 3 0 2 0 0 0 1 0 5 ((d + 1 : Nat) : Int) 0 0 0 0 0 0 0 0 0 0 0 0 false 0 (ByteArray.mk #[]) 0 0 (ByteArray.mk #[]) 0 0 B.Kind B.Name B.Data B.Expect.Epoch B.Expect.N 0)]) from (by rw [show nrows nR65 n l = nrows nR65 n l from rfl,show ([(kc118 ((d + 1 : Nat) : Int) B.Kind B.Name (((o d) 0).1) B.Data.length (((o d) 0).2) B.Expect.Epoch B.Expect.N)] : List (List Value)) = nrows nR65 (fun _ => (o d)) [(S_api_Msg_m.mk 30 3 0 2 0 0 0 1 0 5 ((d + 1 : Nat) : Int) 0 0 0 0 0 0 0 0 0 0 0 0 false 0 (ByteArray.mk #[]) 0 0 (ByteArray.mk #[]) 0 0 B.Kind B.Name B.Data B.Expect.Epoch B.Expect.N 0)] from rfl]; exact nrows_app nR65 n (fun _ => (o d)) l [(S_api_Msg_m.mk 30 3 0 2 0 0 0 1 0 5 ((d + 1 : Nat) : Int) 0 0 0 0 0 0 0 0 0 0 0 0 false 0 (ByteArray.mk #[]) 0 0 (ByteArray.mk #[]) 0 0 B.Kind B.Name B.Data B.Expect.Epoch B.Expect.N 0)])) ?_
   refine GS.setMem (fun w hw => hw.af 20006 fh) ?_
   refine GS.setMem (fun w hw => hw.aa [20001,20002,20006] [Ent.all (nins nJ65 n l),r5 (((o d) 0).1) B.Data,Ent.fact (B.Data.length ≤ ((o d) 0).2)] 20007) ?_
   refine GS.setMem (fun w hw => hw.ac 20007 (Ent.all [Ent.all (nins nJ65 n l),r5 (((o d) 0).1) B.Data,Ent.fact (B.Data.length ≤ ((o d) 0).2)]) 20008 (Ent.all (nins nJ65 (glueH l.length n (fun _ => (o d))) (l ++ [(S_api_Msg_m.mk 30 3 0 2 0 0 0 1 0 5 ((d + 1 : Nat) : Int) 0 0 0 0 0 0 0 0 0 0 0 0 false 0 (ByteArray.mk #[]) 0 0 (ByteArray.mk #[]) 0 0 B.Kind B.Name B.Data B.Expect.Epoch B.Expect.N 0)]))) (nest_snocR (h := n) (L := l) (g := (o d)) (x := (S_api_Msg_m.mk 30 3 0 2 0 0 0 1 0 5 ((d + 1 : Nat) : Int) 0 0 0 0 0 0 0 0 0 0 0 0 false 0 (ByteArray.mk #[]) 0 0 (ByteArray.mk #[]) 0 0 B.Kind B.Name B.Data B.Expect.Epoch B.Expect.N 0)) rfl)) ?_
   refine GS.re [] [] [20001,20006,20007] [] ?_
   refine bnd_elim hm (fun u fi hm => ?_)
   refine GS.ve 8 (fun ee : Value => ee) (show ((.slice ((j 3).ob) ((l ++ [(S_api_Msg_m.mk 30 3 0 2 0 0 0 1 0 5 ((d + 1 : Nat) : Int) 0 0 0 0 0 0 0 0 0 0 0 0 false 0 (ByteArray.mk #[]) 0 0 (ByteArray.mk #[]) 0 0 B.Kind B.Name B.Data B.Expect.Epoch B.Expect.N 0)]).length) ((j 3).cap)) : Value) = .slice ((j 3).ob) u.length ((j 3).cap) from by rw [Option.some.inj fi]) ?_
   refine GS.ce 20000 (fun ee : Ent => ee) (show ((.osl ((j 3).ob) ((j 3).cap) 65 46 (nrows nR65 (glueH l.length n (fun _ => (o d))) (l ++ [(S_api_Msg_m.mk 30 3 0 2 0 0 0 1 0 5 ((d + 1 : Nat) : Int) 0 0 0 0 0 0 0 0 0 0 0 0 false 0 (ByteArray.mk #[]) 0 0 (ByteArray.mk #[]) 0 0 B.Kind B.Name B.Data B.Expect.Epoch B.Expect.N 0)]))) : Ent) = .osl ((j 3).ob) ((j 3).cap) 65 46 (nrows nR65 (glueH l.length n (fun _ => (o d))) u) from by rw [Option.some.inj fi]) ?_
   refine GS.ce 20008 (fun ee : Ent => ee) (show ((Ent.all (nins nJ65 (glueH l.length n (fun _ => (o d))) (l ++ [(S_api_Msg_m.mk 30 3 0 2 0 0 0 1 0 5 ((d + 1 : Nat) : Int) 0 0 0 0 0 0 0 0 0 0 0 0 false 0 (ByteArray.mk #[]) 0 0 (ByteArray.mk #[]) 0 0 B.Kind B.Name B.Data B.Expect.Epoch B.Expect.N 0)]))) : Ent) = Ent.all (nins nJ65 (glueH l.length n (fun _ => (o d))) u) from by rw [Option.some.inj fi]) ?_
   refine GS.seq ?_
   refine GS.dg [11] (fun cv => [(12,.slice (some (Addr.mk (cv 1).x 0 none)) ([(S_api_Msg_m.mk 30 3 0 2 0 0 0 1 0 5 ((d + 1 : Nat) : Int) 0 0 0 0 0 0 0 0 0 0 0 0 false 0 (ByteArray.mk #[]) 0 0 (ByteArray.mk #[]) 0 0 B.Kind B.Name B.Data B.Expect.Epoch B.Expect.N 0)].length) 1)]) [20004] (fun cv => [(20009,.osl (some (Addr.mk (cv 1).x 0 none)) 1 65 46 ([(kc118 ((d + 1 : Nat) : Int) B.Kind B.Name (((o d) 0).1) B.Data.length (((o d) 0).2) B.Expect.Epoch B.Expect.N)] : List (List Value)))]) [(0,hL 20004 0 0),(1,{ act := .new (.row 1 46),key := some 20009,spf := some (fun f => .slice (some (Addr.mk f.x 0 none)) ([(S_api_Msg_m.mk 30 3 0 2 0 0 0 1 0 5 ((d + 1 : Nat) : Int) 0 0 0 0 0 0 0 0 0 0 0 0 false 0 (ByteArray.mk #[]) 0 0 (ByteArray.mk #[]) 0 0 B.Kind B.Name B.Data B.Expect.Epoch B.Expect.N 0)].length) 1) })] (fun cv => [qE ((cw 7).x),qE ((.slice (some (Addr.mk (cv 1).x 0 none)) 1 1) : Value)]) (fun cv => ?_)
   refine GS.ce 20009 (fun rr : List (List Value) => .osl (some (Addr.mk (cv 1).x 0 none)) 1 65 46 rr) (show ([(kc118 ((d + 1 : Nat) : Int) B.Kind B.Name (((o d) 0).1) B.Data.length (((o d) 0).2) B.Expect.Epoch B.Expect.N)] : List (List Value)) = nrows nR65 (fun _ => (o d)) [(S_api_Msg_m.mk 30 3 0 2 0 0 0 1 0 5 ((d + 1 : Nat) : Int) 0 0 0 0 0 0 0 0 0 0 0 0 false 0 (ByteArray.mk #[]) 0 0 (ByteArray.mk #[]) 0 0 B.Kind B.Name B.Data B.Expect.Epoch B.Expect.N 0)] from rfl) ?_
   refine GS.setMem (fun w hw => hw.af 20010 fh) ?_
   refine GS.setMem (fun w hw => hw.aa [20002,20010] [r5 (((o d) 0).1) B.Data,Ent.fact (B.Data.length ≤ ((o d) 0).2)] 20011) ?_
   refine GS.re [] [] [20010] [(20011,Ent.all (nins nJ65 (fun _ => (o d)) [(S_api_Msg_m.mk 30 3 0 2 0 0 0 1 0 5 ((d + 1 : Nat) : Int) 0 0 0 0 0 0 0 0 0 0 0 0 false 0 (ByteArray.mk #[]) 0 0 (ByteArray.mk #[]) 0 0 B.Kind B.Name B.Data B.Expect.Epoch B.Expect.N 0)]))] ?_
   refine bnd_elim hm (fun cl fj hm => ?_)
   refine GS.ve 12 (fun ee : Value => ee) (show ((.slice (some (Addr.mk (cv 1).x 0 none)) ([(S_api_Msg_m.mk 30 3 0 2 0 0 0 1 0 5 ((d + 1 : Nat) : Int) 0 0 0 0 0 0 0 0 0 0 0 0 false 0 (ByteArray.mk #[]) 0 0 (ByteArray.mk #[]) 0 0 B.Kind B.Name B.Data B.Expect.Epoch B.Expect.N 0)].length) 1) : Value) = .slice (some (Addr.mk (cv 1).x 0 none)) cl.length 1 from by rw [Option.some.inj fj]) ?_
   refine GS.ce 20009 (fun ee : Ent => ee) (show ((.osl (some (Addr.mk (cv 1).x 0 none)) 1 65 46 (nrows nR65 (fun _ => (o d)) [(S_api_Msg_m.mk 30 3 0 2 0 0 0 1 0 5 ((d + 1 : Nat) : Int) 0 0 0 0 0 0 0 0 0 0 0 0 false 0 (ByteArray.mk #[]) 0 0 (ByteArray.mk #[]) 0 0 B.Kind B.Name B.Data B.Expect.Epoch B.Expect.N 0)])) : Ent) = .osl (some (Addr.mk (cv 1).x 0 none)) 1 65 46 (nrows nR65 (fun _ => (o d)) cl) from by rw [Option.some.inj fj]) ?_
   refine GS.ce 20011 (fun ee : Ent => ee) (show ((Ent.all (nins nJ65 (fun _ => (o d)) [(S_api_Msg_m.mk 30 3 0 2 0 0 0 1 0 5 ((d + 1 : Nat) : Int) 0 0 0 0 0 0 0 0 0 0 0 0 false 0 (ByteArray.mk #[]) 0 0 (ByteArray.mk #[]) 0 0 B.Kind B.Name B.Data B.Expect.Epoch B.Expect.N 0)])) : Ent) = Ent.all (nins nJ65 (fun _ => (o d)) cl) from by rw [Option.some.inj fj]) ?_
   refine GS.seq ?_
   refine GS.seq ?_
   refine GS.eg [] [(67,.bool (decide ((d : Int) < (a1.length : Int))))] [20002] [] [] [] ?_
   refine jn_elim hm (fun f2 ft hm => ?_)
   refine GS.cu (ι := List S_api_Msg_m × Hds × Option Addr × Nat) (fun ⟨c,r,z,A⟩ => f2 c = some y) [9,67] (fun ⟨c,r,z,A⟩ => [(12,.slice z c.length A)]) [20011] (fun ⟨c,r,z,A⟩ => [(20009,.osl z A 65 46 (nrows nR65 r c)),(20016,Ent.all (nins nJ65 r c))]) ?_ ?_
   rotate_left
   ·intro fk
    refine GS.cd (decide ((d : Int) < (a1.length : Int))) (fun e3 => ?_) (fun e3 => ?_)
    ·replace hm := br_t e3 hm
     refine grd_elim hm (fun fl hm => ?_)
     refine bnd_elim hm (fun s e5 hm => ?_)
     refine GS.kn (p := s.c40.length ≤ (((glueH l.length n (fun _ => (o d))) (Int.toNat (IntKind.i64.wrap (Int.tmod (a1.getD d 0) (IntKind.u64.wrap (u.length : Int)))))) 0).2) 20008 (Ent.all (nins nJ65 (glueH l.length n (fun _ => (o d))) u)) (fun w hw => (((Cov.all_mem (nins_mem nJ65 dS_api_Msg_m fl (by rw [Option.some.inj e5]; exact (.tail _ (.head _))))).1 w hw) : Ent.ok (Ent.fact (s.c40.length ≤ (((glueH l.length n (fun _ => (o d))) (Int.toNat (IntKind.i64.wrap (Int.tmod (a1.getD d 0) (IntKind.u64.wrap (u.length : Int)))))) 0).2)) w).1) (fun f3 => ?_)
     refine GS.setMem (fun w hw => hw.ac 20008 (Ent.all (nins nJ65 (glueH l.length n (fun _ => (o d))) u)) 20012 (r5 ((((glueH l.length n (fun _ => (o d))) (Int.toNat (IntKind.i64.wrap (Int.tmod (a1.getD d 0) (IntKind.u64.wrap (u.length : Int)))))) 0).1) s.c40) (Cov.all_mem (nins_mem nJ65 dS_api_Msg_m fl (by rw [Option.some.inj e5]; exact mm0)))) ?_
     refine grd_elim hm (fun fm hm => ?_)
     refine grd_elim hm (fun f5 hm => ?_)
     refine grd_elim hm (fun e6 hm => ?_)
     refine grd_elim hm (fun f6 hm => ?_)
     refine GS.dg [9,67] (fun co => [(12,.slice ((co 14).ob) ((cl ++ [s]).length) ((co 14).cap))]) [] (fun co => [(20009,.osl ((co 14).ob) ((co 14).cap) 65 46 ((nrows nR65 (fun _ => (o d)) cl) ++ ([(kc12 s.c0 s.c1 s.c2 s.c3 s.c4 s.c5 s.c6 s.c7 s.c8 s.c9 s.c10 s.c11 s.c15 s.c16 s.c17 s.c18 s.c19 s.c20 s.c21 s.c22 s.c23 s.c27 s.c28 s.c29 s.c30 s.c31 s.c32 s.c33 s.c34 s.c35 s.c36 s.c38 s.c39 ((((glueH l.length n (fun _ => (o d))) (Int.toNat (IntKind.i64.wrap (Int.tmod (a1.getD d 0) (IntKind.u64.wrap (u.length : Int)))))) 0).1) s.c40.length ((((glueH l.length n (fun _ => (o d))) (Int.toNat (IntKind.i64.wrap (Int.tmod (a1.getD d 0) (IntKind.u64.wrap (u.length : Int)))))) 0).2) s.c41 s.c42 s.c45)] : List (List Value))))]) [(4,hA (.idx 3 d)),(5,hR 3 d 0 [.int .u64 (a1.getD d 0)]),(9,hA (.div)),(11,hA (.idx 20000 (Int.toNat (IntKind.i64.wrap (Int.tmod (a1.getD d 0) (IntKind.u64.wrap (u.length : Int))))))),(12,hR 20000 (Int.toNat (IntKind.i64.wrap (Int.tmod (a1.getD d 0) (IntKind.u64.wrap (u.length : Int))))) 0 [vI s.c0,vI s.c1,vI s.c2,vI s.c3,vI s.c4,vI s.c5,vI s.c6,vI s.c7,vI s.c8,vI s.c9,vI s.c10,vI s.c11,.slice none 0 0,.slice none 0 0,.slice none 0 0,vI s.c15,vI s.c16,vI s.c17,vI s.c18,vI s.c19,vI s.c20,vI s.c21,vI s.c22,vI s.c23,.slice none 0 0,.slice none 0 0,.slice none 0 0,vI s.c27,vI s.c28,.bool s.c29,vI s.c30,.string s.c31,vI s.c32,vI s.c33,.string s.c34,vI s.c35,vI s.c36,.slice none 0 0,vI s.c38,.string s.c39,.slice ((((glueH l.length n (fun _ => (o d))) (Int.toNat (IntKind.i64.wrap (Int.tmod (a1.getD d 0) (IntKind.u64.wrap (u.length : Int)))))) 0).1) s.c40.length ((((glueH l.length n (fun _ => (o d))) (Int.toNat (IntKind.i64.wrap (Int.tmod (a1.getD d 0) (IntKind.u64.wrap (u.length : Int)))))) 0).2),vI s.c41,vI s.c42,.slice none 0 0,.slice none 0 0,vI s.c45]),(13,hK (.new (.row 1 46)) 20013),(14,{ act := .app (some 20013),key := some 20009,spf := some (fun f => .slice (f.ob) ((cl ++ [s]).length) (f.cap)) })] (fun co => [qE O,⟨(mlen rU64 a1 : a1.length = (List.map rU64 a1).length)⟩,qE (d : Int),⟨fm⟩,qE (blk O),qE (offs O + d * 1),⟨(map_at rU64 0 fm : (List.map rU64 a1)[d]? = some [.int .u64 (a1.getD d 0)])⟩,⟨f5⟩,qE ((j 3).ob),⟨((nrows_len nR65 (glueH l.length n (fun _ => (o d))) u).symm : u.length = (nrows nR65 (glueH l.length n (fun _ => (o d))) u).length)⟩,⟨e6.eq⟩,⟨e6.2⟩,qE (blk ((j 3).ob)),qE (offs ((j 3).ob) + (Int.toNat (IntKind.i64.wrap (Int.tmod (a1.getD d 0) (IntKind.u64.wrap (u.length : Int))))) * 46),⟨((by have q := nrows_at nR65 dS_api_Msg_m (glueH l.length n (fun _ => (o d))) u e6.2; rw [Option.some.inj e5] at q; exact q) : (nrows nR65 (glueH l.length n (fun _ => (o d))) u)[(Int.toNat (IntKind.i64.wrap (Int.tmod (a1.getD d 0) (IntKind.u64.wrap (u.length : Int)))))]? = some [vI s.c0,vI s.c1,vI s.c2,vI s.c3,vI s.c4,vI s.c5,vI s.c6,vI s.c7,vI s.c8,vI s.c9,vI s.c10,vI s.c11,.slice none 0 0,.slice none 0 0,.slice none 0 0,vI s.c15,vI s.c16,vI s.c17,vI s.c18,vI s.c19,vI s.c20,vI s.c21,vI s.c22,vI s.c23,.slice none 0 0,.slice none 0 0,.slice none 0 0,vI s.c27,vI s.c28,.bool s.c29,vI s.c30,.string s.c31,vI s.c32,vI s.c33,.string s.c34,vI s.c35,vI s.c36,.slice none 0 0,vI s.c38,.string s.c39,.slice ((((glueH l.length n (fun _ => (o d))) (Int.toNat (IntKind.i64.wrap (Int.tmod (a1.getD d 0) (IntKind.u64.wrap (u.length : Int)))))) 0).1) s.c40.length ((((glueH l.length n (fun _ => (o d))) (Int.toNat (IntKind.i64.wrap (Int.tmod (a1.getD d 0) (IntKind.u64.wrap (u.length : Int)))))) 0).2),vI s.c41,vI s.c42,.slice none 0 0,.slice none 0 0,vI s.c45])⟩,qE (some (Addr.mk (co 13).x 0 none)),qE (([(kc12 s.c0 s.c1 s.c2 s.c3 s.c4 s.c5 s.c6 s.c7 s.c8 s.c9 s.c10 s.c11 s.c15 s.c16 s.c17 s.c18 s.c19 s.c20 s.c21 s.c22 s.c23 s.c27 s.c28 s.c29 s.c30 s.c31 s.c32 s.c33 s.c34 s.c35 s.c36 s.c38 s.c39 ((((glueH l.length n (fun _ => (o d))) (Int.toNat (IntKind.i64.wrap (Int.tmod (a1.getD d 0) (IntKind.u64.wrap (u.length : Int)))))) 0).1) s.c40.length ((((glueH l.length n (fun _ => (o d))) (Int.toNat (IntKind.i64.wrap (Int.tmod (a1.getD d 0) (IntKind.u64.wrap (u.length : Int)))))) 0).2) s.c41 s.c42 s.c45)] : List (List Value)).length),qE (some (Addr.mk (cv 1).x 0 none)),qE 1,⟨((nrows_len nR65 (fun _ => (o d)) cl).symm : cl.length = (nrows nR65 (fun _ => (o d)) cl).length)⟩,⟨(appb (m := 1) f6 (nrows_len nR65 (fun _ => (o d)) cl) rfl : ((nrows nR65 (fun _ => (o d)) cl).length + ([(kc12 s.c0 s.c1 s.c2 s.c3 s.c4 s.c5 s.c6 s.c7 s.c8 s.c9 s.c10 s.c11 s.c15 s.c16 s.c17 s.c18 s.c19 s.c20 s.c21 s.c22 s.c23 s.c27 s.c28 s.c29 s.c30 s.c31 s.c32 s.c33 s.c34 s.c35 s.c36 s.c38 s.c39 ((((glueH l.length n (fun _ => (o d))) (Int.toNat (IntKind.i64.wrap (Int.tmod (a1.getD d 0) (IntKind.u64.wrap (u.length : Int)))))) 0).1) s.c40.length ((((glueH l.length n (fun _ => (o d))) (Int.toNat (IntKind.i64.wrap (Int.tmod (a1.getD d 0) (IntKind.u64.wrap (u.length : Int)))))) 0).2) s.c41 s.c42 s.c45)] : List (List Value)).length) * (552 + 1) ≤ 70368744177664)⟩,qE true,⟨(slen (by simp [nrows_len]) : ((.slice ((co 14).ob) (cl.length + ([(kc12 s.c0 s.c1 s.c2 s.c3 s.c4 s.c5 s.c6 s.c7 s.c8 s.c9 s.c10 s.c11 s.c15 s.c16 s.c17 s.c18 s.c19 s.c20 s.c21 s.c22 s.c23 s.c27 s.c28 s.c29 s.c30 s.c31 s.c32 s.c33 s.c34 s.c35 s.c36 s.c38 s.c39 ((((glueH l.length n (fun _ => (o d))) (Int.toNat (IntKind.i64.wrap (Int.tmod (a1.getD d 0) (IntKind.u64.wrap (u.length : Int)))))) 0).1) s.c40.length ((((glueH l.length n (fun _ => (o d))) (Int.toNat (IntKind.i64.wrap (Int.tmod (a1.getD d 0) (IntKind.u64.wrap (u.length : Int)))))) 0).2) s.c41 s.c42 s.c45)] : List (List Value)).length) ((co 14).cap)) : Value) = .slice ((co 14).ob) ((cl ++ [s]).length) ((co 14).cap))⟩]) (fun co => ?_)
     refine GS.ce 20009 (fun rr : List (List Value) => .osl ((co 14).ob) ((co 14).cap) 65 46 rr) (show (nrows nR65 (fun _ => (o d)) cl) ++ ([(kc12 s.c0 s.c1 s.c2 s.c3 s.c4 s.c5 s.c6 s.c7 s.c8 s.c9 s.c10 s.c11 s.c15 s.c16 s.c17 s.c18 s.c19 s.c20 s.c21 s.c22 s.c23 s.c27 s.c28 s.c29 s.c30 s.c31 s.c32 s.c33 s.c34 s.c35 s.c36 s.c38 s.c39 ((((glueH l.length n (fun _ => (o d))) (Int.toNat (IntKind.i64.wrap (Int.tmod (a1.getD d 0) (IntKind.u64.wrap (u.length : Int)))))) 0).1) s.c40.length ((((glueH l.length n (fun _ => (o d))) (Int.toNat (IntKind.i64.wrap (Int.tmod (a1.getD d 0) (IntKind.u64.wrap (u.length : Int)))))) 0).2) s.c41 s.c42 s.c45)] : List (List Value)) = nrows nR65 (glueH cl.length (fun _ => (o d)) (fun _ => ((glueH l.length n (fun _ => (o d))) (Int.toNat (IntKind.i64.wrap (Int.tmod (a1.getD d 0) (IntKind.u64.wrap (u.length : Int)))))))) (cl ++ [s]) from (by rw [show nrows nR65 (fun _ => (o d)) cl = nrows nR65 (fun _ => (o d)) cl from rfl,show ([(kc12 s.c0 s.c1 s.c2 s.c3 s.c4 s.c5 s.c6 s.c7 s.c8 s.c9 s.c10 s.c11 s.c15 s.c16 s.c17 s.c18 s.c19 s.c20 s.c21 s.c22 s.c23 s.c27 s.c28 s.c29 s.c30 s.c31 s.c32 s.c33 s.c34 s.c35 s.c36 s.c38 s.c39 ((((glueH l.length n (fun _ => (o d))) (Int.toNat (IntKind.i64.wrap (Int.tmod (a1.getD d 0) (IntKind.u64.wrap (u.length : Int)))))) 0).1) s.c40.length ((((glueH l.length n (fun _ => (o d))) (Int.toNat (IntKind.i64.wrap (Int.tmod (a1.getD d 0) (IntKind.u64.wrap (u.length : Int)))))) 0).2) s.c41 s.c42 s.c45)] : List (List Value)) = nrows nR65 (fun _ => ((glueH l.length n (fun _ => (o d))) (Int.toNat (IntKind.i64.wrap (Int.tmod (a1.getD d 0) (IntKind.u64.wrap (u.length : Int))))))) [s] from rfl]; exact nrows_app nR65 (fun _ => (o d)) (fun _ => ((glueH l.length n (fun _ => (o d))) (Int.toNat (IntKind.i64.wrap (Int.tmod (a1.getD d 0) (IntKind.u64.wrap (u.length : Int))))))) cl [s])) ?_
     refine GS.setMem (fun w hw => hw.af 20014 f3) ?_
     refine GS.setMem (fun w hw => hw.aa [20011,20012,20014] [Ent.all (nins nJ65 (fun _ => (o d)) cl),r5 ((((glueH l.length n (fun _ => (o d))) (Int.toNat (IntKind.i64.wrap (Int.tmod (a1.getD d 0) (IntKind.u64.wrap (u.length : Int)))))) 0).1) s.c40,Ent.fact (s.c40.length ≤ (((glueH l.length n (fun _ => (o d))) (Int.toNat (IntKind.i64.wrap (Int.tmod (a1.getD d 0) (IntKind.u64.wrap (u.length : Int)))))) 0).2)] 20015) ?_
     refine GS.setMem (fun w hw => hw.ac 20015 (Ent.all [Ent.all (nins nJ65 (fun _ => (o d)) cl),r5 ((((glueH l.length n (fun _ => (o d))) (Int.toNat (IntKind.i64.wrap (Int.tmod (a1.getD d 0) (IntKind.u64.wrap (u.length : Int)))))) 0).1) s.c40,Ent.fact (s.c40.length ≤ (((glueH l.length n (fun _ => (o d))) (Int.toNat (IntKind.i64.wrap (Int.tmod (a1.getD d 0) (IntKind.u64.wrap (u.length : Int)))))) 0).2)]) 20016 (Ent.all (nins nJ65 (glueH cl.length (fun _ => (o d)) (fun _ => ((glueH l.length n (fun _ => (o d))) (Int.toNat (IntKind.i64.wrap (Int.tmod (a1.getD d 0) (IntKind.u64.wrap (u.length : Int)))))))) (cl ++ [s]))) (nest_snocR (h := (fun _ => (o d))) (L := cl) (g := ((glueH l.length n (fun _ => (o d))) (Int.toNat (IntKind.i64.wrap (Int.tmod (a1.getD d 0) (IntKind.u64.wrap (u.length : Int))))))) (x := s) rfl)) ?_
     refine GS.re [] [] [20011,20014,20015] [] ?_
     exact GS.rs (fk ⟨(cl ++ [s]),(glueH cl.length (fun _ => (o d)) (fun _ => ((glueH l.length n (fun _ => (o d))) (Int.toNat (IntKind.i64.wrap (Int.tmod (a1.getD d 0) (IntKind.u64.wrap (u.length : Int)))))))),(co 14).ob,(co 14).cap⟩ hm)
    ·replace hm := br_f e3 hm
     refine GS.skip ?_
     exact GS.rk [(1,1),(2,2),(3,3),(5,5),(6,6),(7,7),(8,8),(9,9),(10,10),(11,11),(12,12),(13,13),(14,14),(20000,20000),(20008,20008),(20009,20009),(20016,20011)] (fk ⟨cl,(fun _ => (o d)),some (Addr.mk (cv 1).x 0 none),1⟩ hm)
   ·rintro ⟨c,r,z,A⟩ hm
    replace hm := (ft _).symm.trans hm
    try dsimp only at hm
    refine GS.seq ?_
    refine GS.seq ?_
    refine GS.ez [12] [(83,.slice z c.length A),(84,vI (c.length : Int)),(85,vI 0)] [] ?_
    refine GS.block ?_
    refine GS.loop ?_
    refine GS.kn 7 (o31 cb b8 b5) (fun _ => osl_len) (fun gt => ?_)
    refine GS.kn 8 (o94 cc b9 b6) (fun _ => osl_len) (fun gu => ?_)
    refine GS.kn 9 (o91 cd ca b7) (fun _ => osl_len) (fun gv => ?_)
    refine GS.kn 12 (o31 bh be bb) (fun _ => osl_len) (fun gw => ?_)
    refine GS.kn 13 (o94 bi bf bc) (fun _ => osl_len) (fun gx => ?_)
    refine GS.kn 14 (o91 bj bg bd) (fun _ => osl_len) (fun gy => ?_)
    refine GS.kn 20000 (.osl ((j 3).ob) ((j 3).cap) 65 46 (nrows nR65 (glueH l.length n (fun _ => (o d))) u)) (fun _ => osl_lenN) (fun gz => ?_)
    refine GS.kn 20009 (.osl z A 65 46 (nrows nR65 r c)) (fun _ => osl_lenN) (fun g0 => ?_)
    refine grd_elim hm (fun ej hm => ?_)
    refine loopL_elim hm (fun st1704 fn1705 hst1706 hfn1707 hm => ?_)
    refine GS.li (ι := List S_api_Msg_m × Nat × Int × Int × Int × Int × Int × Int × Int × List S_api_Entry × List S_api_Last × List S_api_Item × List S_api_Entry × List S_api_Last × List S_api_Item × Option Addr × Nat × Option Addr × Nat × Option Addr × Nat × Option Addr × Nat × Option Addr × Nat × Option Addr × Nat × Option Addr × Nat) (fun ⟨dg,C,au,av,aw,ab,al,am,an,ae,af,ag,P,Q,R,ah,ap,ai,aq,aj,ar,ce,cf,T,U,V,W,Y,Z⟩ => c.drop C = dg ∧ loopL st1704 fn1705 dg C (au,av,aw,ab,al,am,an,ae,af,ag,P,Q,R) = some y) (fun ⟨dg,C,au,av,aw,ab,al,am,an,ae,af,ag,P,Q,R,ah,ap,ai,aq,aj,ar,ce,cf,T,U,V,W,Y,Z⟩ => dg.length) [] (fun ⟨dg,C,au,av,aw,ab,al,am,an,ae,af,ag,P,Q,R,ah,ap,ai,aq,aj,ar,ce,cf,T,U,V,W,Y,Z⟩ => [(85,vI (C : Int))]) [] (fun ⟨dg,C,au,av,aw,ab,al,am,an,ae,af,ag,P,Q,R,ah,ap,ai,aq,aj,ar,ce,cf,T,U,V,W,Y,Z⟩ => [(5,.cells x5 80 (kc11 x6 x7 au av aw ah ae.length ap ai af.length aq aj ag.length ar ce cf ab)),(7,o31 ah ap ae),(8,o94 ai aq af),(9,o91 aj ar ag),(10,.cells ((H 1).x) 28 (kc15 al am an T P.length U V Q.length W Y R.length Z)),(11,.osl ce cf 65 46 []),(12,o31 T U P),(13,o94 V W Q),(14,o91 Y Z R)]) ?_ ⟨c,0,ci,cj,ck,b1,bw,bx,bz,b5,b6,b7,bb,bc,bd,cb,b8,cc,b9,cd,ca,bp,bq,bh,be,bi,bf,bj,bg⟩ ⟨List.drop_zero ..,hm⟩
    rintro ⟨dg,C,au,av,aw,ab,al,am,an,ae,af,ag,P,Q,R,ah,ap,ai,aq,aj,ar,ce,cf,T,U,V,W,Y,Z⟩ ⟨db,hm⟩ eh
    cases dg with
    | nil =>
     replace hm := (hfn1707 _ _).symm.trans hm
     try dsimp only at hm
     refine GS.seq ?_
     refine GS.ez [] [(86,.bool (decide ((C : Int) < (c.length : Int))))] [] ?_
     refine GS.seq ?_
     refine GS.cd (decide ((C : Int) < (c.length : Int))) (fun f7 => absb f7 (drop_dec0 db)) (fun _ => ?_)
     refine GS.exit rfl ?_
     refine GS.seq ?_
     refine bnd_elim hm (fun g1 f8 hm => ?_)
     refine bnd_elim hm (fun g2 f9 hm => ?_)
     refine GS.eg [83,84,85,86] [(168,.bool false)] [20009,20016] [] [(1,hC [5] (.bool true)),(5,hC [5,6,7,8,9,11] (vI 0))] [⟨(w___primary_Machine__Idle_2 F x5 (vI 1) (vI 0) (vI 3) (vI 0) (vI 9) (.slice x6 1 x7) (vI au) (vI av) (vI aw) (.slice ah ae.length ap) (.slice ai af.length aq) (.slice aj ag.length ar) (.slice ce 0 cf) (.bool false) (vI ab) f8).ok (es := [some (.cells x5 80 (kc11 x6 x7 au av aw ah ae.length ap ai af.length aq aj ag.length ar ce cf ab))]) ⟨(.inl ⟨_,mm0,Cov.cells_rd⟩),trivial⟩⟩,⟨(w___primary_Machine__Waiting F x5 x6 x7 au av aw ah ap ae ai aq af aj ar ag ce cf ab f9).ok (es := [some (.cells x5 80 (kc11 x6 x7 au av aw ah ae.length ap ai af.length aq aj ag.length ar ce cf ab)),some (.osl x6 x7 3 1 [[vI 1]]),some (o31 ah ap ae),some (o94 ai aq af),some (o91 aj ar ag),some (.osl ce cf 65 46 [])]) ⟨(.inl ⟨_,mm1,Cov.osl_rd⟩),(.inl ⟨_,mm2,Cov.osl_rd⟩),(.inl ⟨_,mm3,Cov.osl_rd⟩),(.inl ⟨_,mm4,Cov.osl_rd⟩),(.inl ⟨_,mm5,Cov.osl_rd⟩),(.inl ⟨_,mm0,Cov.cells_rd⟩),trivial⟩⟩] ?_
     refine GS.cF ?_
     refine GS.skip ?_
     refine GS.inBlock ?_
     refine GS.eg [168] [(46,vI ((d + 1 : Nat) : Int))] [] [] [(0,hP (vI ((d + 1 : Nat) : Int)))] [⟨(natw (drop_lt ds) ff : ((vI (IntKind.i64.wrap ((d : Int) + 1))) : Value) = vI ((d + 1 : Nat) : Int))⟩] ?_
     refine GS.inLoop ?_
     exact GS.rk [(1,1),(2,2),(3,3),(5,5),(6,6),(7,7),(8,8),(9,9),(10,10),(11,11),(12,12),(13,13),(14,14),(20000,20000),(20001,20008)] (fs ⟨dr,d + 1,au,av,aw,ab,al,am,an,u,ae,af,ag,P,Q,R,(glueH l.length n (fun _ => (o d))),(j 3).ob,(j 3).cap,ah,ap,ai,aq,aj,ar,ce,cf,T,U,V,W,Y,Z⟩ ⟨drop_next ds,hm⟩ (Nat.lt_succ_self _))
    | cons a dg =>
     replace hm := (hst1706 _ _ _ _).symm.trans hm
     try dsimp only at hm
     refine GS.seq ?_
     refine GS.ez [] [(86,.bool (decide ((C : Int) < (c.length : Int))))] [] ?_
     refine GS.seq ?_
     refine GS.cd (decide ((C : Int) < (c.length : Int))) (fun _ => ?_) (fun ga => absb (drop_dec db) ga)
     refine GS.skip ?_
     refine GS.seq ?_
     refine GS.block ?_
     refine GS.seq ?_
     refine GS.kn (p := a.c40.length ≤ ((r C) 0).2) 20016 (Ent.all (nins nJ65 r c)) (fun w hw => ((Cov.all_mem (nins_drop nJ65 r db ((.tail _ (.head _))))).1 w hw).1) (fun g3 => ?_)
     refine GS.setMem (fun w hw => hw.ac 20016 (Ent.all (nins nJ65 r c)) 20017 (r5 (((r C) 0).1) a.c40) (Cov.all_mem (nins_drop nJ65 r db mm0))) ?_
     refine GS.dg [86] (fun da => [(14,pA ((da 2).x) 0)]) [] (fun da => [(20018,.cells ((da 2).x) 65 (kc12 a.c0 a.c1 a.c2 a.c3 a.c4 a.c5 a.c6 a.c7 a.c8 a.c9 a.c10 a.c11 a.c15 a.c16 a.c17 a.c18 a.c19 a.c20 a.c21 a.c22 a.c23 a.c27 a.c28 a.c29 a.c30 a.c31 a.c32 a.c33 a.c34 a.c35 a.c36 a.c38 a.c39 (((r C) 0).1) a.c40.length (((r C) 0).2) a.c41 a.c42 a.c45))]) [(0,hA (.idx 20009 C)),(1,hR 20009 C 0 [vI a.c0,vI a.c1,vI a.c2,vI a.c3,vI a.c4,vI a.c5,vI a.c6,vI a.c7,vI a.c8,vI a.c9,vI a.c10,vI a.c11,.slice none 0 0,.slice none 0 0,.slice none 0 0,vI a.c15,vI a.c16,vI a.c17,vI a.c18,vI a.c19,vI a.c20,vI a.c21,vI a.c22,vI a.c23,.slice none 0 0,.slice none 0 0,.slice none 0 0,vI a.c27,vI a.c28,.bool a.c29,vI a.c30,.string a.c31,vI a.c32,vI a.c33,.string a.c34,vI a.c35,vI a.c36,.slice none 0 0,vI a.c38,.string a.c39,.slice (((r C) 0).1) a.c40.length (((r C) 0).2),vI a.c41,vI a.c42,.slice none 0 0,.slice none 0 0,vI a.c45]),(2,hN 20018),(3,hS 20018)] (fun da => [qE z,⟨((nrows_len nR65 r c).symm : c.length = (nrows nR65 r c).length)⟩,qE (C : Int),⟨((drop_lt db) : C < c.length)⟩,qE (blk z),qE (offs z + C * 46),⟨(nrows_drop nR65 r db : (nrows nR65 r c)[C]? = some [vI a.c0,vI a.c1,vI a.c2,vI a.c3,vI a.c4,vI a.c5,vI a.c6,vI a.c7,vI a.c8,vI a.c9,vI a.c10,vI a.c11,.slice none 0 0,.slice none 0 0,.slice none 0 0,vI a.c15,vI a.c16,vI a.c17,vI a.c18,vI a.c19,vI a.c20,vI a.c21,vI a.c22,vI a.c23,.slice none 0 0,.slice none 0 0,.slice none 0 0,vI a.c27,vI a.c28,.bool a.c29,vI a.c30,.string a.c31,vI a.c32,vI a.c33,.string a.c34,vI a.c35,vI a.c36,.slice none 0 0,vI a.c38,.string a.c39,.slice (((r C) 0).1) a.c40.length (((r C) 0).2),vI a.c41,vI a.c42,.slice none 0 0,.slice none 0 0,vI a.c45])⟩,qE ((da 2).x),qE true]) (fun da => ?_)
     refine GS.seq ?_
     refine bnd_elim hm (fun b ep hm => ?_)
     refine br_elim hm (fun ek hm => ?_) (fun ek hm => ?_)
     ·skip
      refine GS.open_ ?_
      refine GR.eu 2 [14] [(89,pA x5 0),(90,.agg ((kc12 a.c0 a.c1 a.c2 a.c3 a.c4 a.c5 a.c6 a.c7 a.c8 a.c9 a.c10 a.c11 a.c15 a.c16 a.c17 a.c18 a.c19 a.c20 a.c21 a.c22 a.c23 a.c27 a.c28 a.c29 a.c30 a.c31 a.c32 a.c33 a.c34 a.c35 a.c36 a.c38 a.c39 (((r C) 0).1) a.c40.length (((r C) 0).2) a.c41 a.c42 a.c45)).toArray)] [20018] [] [(1,hL 20018 0 0)] [qE ((da 2).x)] ?_
      refine GR.cg (CallG.fT ek (w___primary_Machine__Step F x5 x6 x7 au av aw ah ap ae ai aq af aj ar ag ce cf ab a.c0 a.c1 a.c2 a.c3 a.c4 a.c5 a.c6 a.c7 a.c8 a.c9 a.c10 a.c11 a.c15 a.c16 a.c17 a.c18 a.c19 a.c20 a.c21 a.c22 a.c23 a.c27 a.c28 a.c29 a.c30 a.c31 a.c32 a.c33 a.c34 a.c35 a.c36 a.c38 a.c39 (((r C) 0).1) (((r C) 0).2) a.c40 a.c41 a.c42 a.c45 ep)) [11,5] [20019,20020,5] [89,90] [] ⟨rV 6 (.osl x6 x7 3 1 [[vI 1]]) Cov.osl_rd,rV 7 (o31 ah ap ae) Cov.osl_rd,rV 8 (o94 ai aq af) Cov.osl_rd,rV 9 (o91 aj ar ag) Cov.osl_rd,rR 20017,trivial⟩ ?_
      rintro ⟨⟨cx,cp,cn,ax⟩,_,_,_,_⟩
      refine GR.du 2 [91] (fun dk => [(15,pA ((dk 3).x) 0)]) [20017] (fun dk => [(20021,.cells ((dk 3).x) 68 (kc30 cx cp))]) [(3,hN 20021),(4,hS 20021)] (fun dk => [qE ((dk 3).x),qE true]) (fun dk => ?_)
      refine GR.dm ?_
      refine GS.seq ?_
      refine GS.eg [15] [(93,.slice cx 1 cp),(94,vI 1),(95,vI 0)] [20021] [] [(1,hL 20021 0 0)] [qE ((dk 3).x)] ?_
      refine GS.block ?_
      refine GS.loop ?_
      refine GS.seq ?_
      refine GS.ez [] [(96,.bool true)] [] ?_
      refine GS.seq ?_
      refine GS.cT ?_
      refine GS.skip ?_
      refine GS.seq ?_
      refine GS.block ?_
      refine GS.seq ?_
      refine GS.dg [96] (fun dh => [(17,pA ((dh 2).x) 0)]) [] (fun dh => [(20022,.cells ((dh 2).x) 65 (kc29 a.c1 a.c2 a.c9 a.c10 b.a0 b.a1 b.a2 b.a3))]) [(0,hA (.idx 20019 0)),(1,hR 20019 0 0 (kc29 a.c1 a.c2 a.c9 a.c10 b.a0 b.a1 b.a2 b.a3)),(2,hN 20022),(3,hS 20022)] (fun dh => [qE cx,qE (([(kc29 a.c1 a.c2 a.c9 a.c10 b.a0 b.a1 b.a2 b.a3)] : List (List Value)).length),qE (0 : Int),⟨((Nat.le_of_ble_eq_true rfl) : 0 < 1)⟩,qE (blk cx),qE (offs cx + 0 * 46),qE (some (kc29 a.c1 a.c2 a.c9 a.c10 b.a0 b.a1 b.a2 b.a3)),qE ((dh 2).x),qE true]) (fun dh => ?_)
      refine GS.seq ?_
      refine GS.seq ?_
      refine GS.eg [] [(101,.bool false)] [] [] [(1,hL 20022 0 0)] [qE ((dh 2).x)] ?_
      refine GS.cF ?_
      refine GS.skip ?_
      refine GS.seq ?_
      refine GS.eg [101] [(142,.bool false)] [] [] [(1,hL 20022 0 0)] [qE ((dh 2).x)] ?_
      refine GS.cF ?_
      refine GS.skip ?_
      refine GS.inBlock ?_
      refine GS.eg [17,142] [(95,vI 1)] [20022] [] [] [] ?_
      refine GS.inLoop ?_
      refine GS.seq ?_
      refine GS.ez [] [(96,.bool false)] [] ?_
      refine GS.seq ?_
      refine GS.cF ?_
      refine GS.exit rfl ?_
      refine GS.inBlock ?_
      refine GS.eg [93,94,95,96] [(85,vI ((C + 1 : Nat) : Int))] [20019] [] [(0,hP (vI ((C + 1 : Nat) : Int)))] [⟨(natw (drop_lt db) ej : ((vI (IntKind.i64.wrap ((C : Int) + 1))) : Value) = vI ((C + 1 : Nat) : Int))⟩] ?_
      refine GS.inLoop ?_
      exact GS.rk [(1,1),(2,2),(3,3),(5,5),(6,6),(7,7),(8,8),(9,9),(10,10),(11,20020),(12,12),(13,13),(14,14),(20000,20000),(20008,20008),(20009,20009),(20016,20016)] (eh ⟨dg,C + 1,au,av,aw,ab,al,am,an,ae,af,ag,P,Q,R,ah,ap,ai,aq,aj,ar,cn,ax,T,U,V,W,Y,Z⟩ ⟨drop_next db,hm⟩ (Nat.lt_succ_self _))
     ·skip
      refine br_elim hm (fun er hm => ?_) (fun er hm => ?_)
      ·skip
       refine GS.open_ ?_
       refine GR.eu 2 [14] [(89,pA x5 0),(90,.agg ((kc12 a.c0 a.c1 a.c2 a.c3 a.c4 a.c5 a.c6 a.c7 a.c8 a.c9 a.c10 a.c11 a.c15 a.c16 a.c17 a.c18 a.c19 a.c20 a.c21 a.c22 a.c23 a.c27 a.c28 a.c29 a.c30 a.c31 a.c32 a.c33 a.c34 a.c35 a.c36 a.c38 a.c39 (((r C) 0).1) a.c40.length (((r C) 0).2) a.c41 a.c42 a.c45)).toArray)] [20018] [] [(1,hL 20018 0 0)] [qE ((da 2).x)] ?_
       refine GR.cg (CallG.fT er (CallG.fF ek (w___primary_Machine__Step F x5 x6 x7 au av aw ah ap ae ai aq af aj ar ag ce cf ab a.c0 a.c1 a.c2 a.c3 a.c4 a.c5 a.c6 a.c7 a.c8 a.c9 a.c10 a.c11 a.c15 a.c16 a.c17 a.c18 a.c19 a.c20 a.c21 a.c22 a.c23 a.c27 a.c28 a.c29 a.c30 a.c31 a.c32 a.c33 a.c34 a.c35 a.c36 a.c38 a.c39 (((r C) 0).1) (((r C) 0).2) a.c40 a.c41 a.c42 a.c45 ep))) [11,5] [20019,5] [89,90] [] ⟨rV 6 (.osl x6 x7 3 1 [[vI 1]]) Cov.osl_rd,rV 7 (o31 ah ap ae) Cov.osl_rd,rV 8 (o94 ai aq af) Cov.osl_rd,rV 9 (o91 aj ar ag) Cov.osl_rd,rR 20017,trivial⟩ ?_
       rintro ⟨_,⟨cp,cn⟩,_,_,_⟩
       refine GR.du 2 [91] (fun dl => [(15,pA ((dl 3).x) 0)]) [20017] (fun dl => [(20020,.cells ((dl 3).x) 68 (kc13))]) [(3,hN 20020),(4,hS 20020)] (fun dl => [qE ((dl 3).x),qE true]) (fun dl => ?_)
       refine GR.dm ?_
       refine GS.seq ?_
       refine GS.eg [15] [(93,.slice none 0 0),(94,vI 0),(95,vI 0)] [20020] [] [(1,hL 20020 0 0)] [qE ((dl 3).x)] ?_
       refine GS.block ?_
       refine GS.loop ?_
       refine GS.seq ?_
       refine GS.ez [] [(96,.bool false)] [] ?_
       refine GS.seq ?_
       refine GS.cF ?_
       refine GS.exit rfl ?_
       refine GS.inBlock ?_
       refine GS.eg [93,94,95,96] [(85,vI ((C + 1 : Nat) : Int))] [] [] [(0,hP (vI ((C + 1 : Nat) : Int)))] [⟨(natw (drop_lt db) ej : ((vI (IntKind.i64.wrap ((C : Int) + 1))) : Value) = vI ((C + 1 : Nat) : Int))⟩] ?_
       refine GS.inLoop ?_
       exact GS.rk [(1,1),(2,2),(3,3),(5,5),(6,6),(7,7),(8,8),(9,9),(10,10),(11,20019),(12,12),(13,13),(14,14),(20000,20000),(20008,20008),(20009,20009),(20016,20016)] (eh ⟨dg,C + 1,au,av,aw,ab,al,am,an,ae,af,ag,P,Q,R,ah,ap,ai,aq,aj,ar,cp,cn,T,U,V,W,Y,Z⟩ ⟨drop_next db,hm⟩ (Nat.lt_succ_self _))
      ·skip
       refine br_elim hm (fun eu hm => ?_) (fun eu hm => ?_)
       ·skip
        refine GS.open_ ?_
        refine GR.eu 2 [14] [(89,pA x5 0),(90,.agg ((kc12 a.c0 a.c1 a.c2 a.c3 a.c4 a.c5 a.c6 a.c7 a.c8 a.c9 a.c10 a.c11 a.c15 a.c16 a.c17 a.c18 a.c19 a.c20 a.c21 a.c22 a.c23 a.c27 a.c28 a.c29 a.c30 a.c31 a.c32 a.c33 a.c34 a.c35 a.c36 a.c38 a.c39 (((r C) 0).1) a.c40.length (((r C) 0).2) a.c41 a.c42 a.c45)).toArray)] [20018] [] [(1,hL 20018 0 0)] [qE ((da 2).x)] ?_
        refine GR.cg (CallG.fT eu (CallG.fF er (CallG.fF ek (w___primary_Machine__Step F x5 x6 x7 au av aw ah ap ae ai aq af aj ar ag ce cf ab a.c0 a.c1 a.c2 a.c3 a.c4 a.c5 a.c6 a.c7 a.c8 a.c9 a.c10 a.c11 a.c15 a.c16 a.c17 a.c18 a.c19 a.c20 a.c21 a.c22 a.c23 a.c27 a.c28 a.c29 a.c30 a.c31 a.c32 a.c33 a.c34 a.c35 a.c36 a.c38 a.c39 (((r C) 0).1) (((r C) 0).2) a.c40 a.c41 a.c42 a.c45 ep)))) [11,5] [20019,20020,20021,20022,20024,20023,20025,20026,20027,20028,20030,20031,20032,20029,5] [89,90] [] ⟨rV 6 (.osl x6 x7 3 1 [[vI 1]]) Cov.osl_rd,rV 7 (o31 ah ap ae) Cov.osl_rd,rV 8 (o94 ai aq af) Cov.osl_rd,rV 9 (o91 aj ar ag) Cov.osl_rd,rR 20017,trivial⟩ ?_
        rintro ⟨_,_,⟨cn,ax,bu,az,ba,b2,bv,ay,ak,ao,a9,a8,bk,bl,bm,bn,bo,bs,br,bt,b4,b3,ct,cs,cu,cq,cr⟩,_,_⟩
        refine GR.du 2 [91] (fun dm => [(15,pA ((dm 3).x) 0)]) [7,8,9,20017] (fun dm => [(20033,.cells ((dm 3).x) 68 (kc51 b.c0 b.c1 b.c2 cn b.c3.length ax bu b.c4.length az ba b.c5.length b2 a.c39 b.c6 b.c7 bv b.c8.length ay ak ao))]) [(3,hN 20033),(4,hS 20033)] (fun dm => [qE ((dm 3).x),qE true]) (fun dm => ?_)
        refine GR.dm ?_
        refine GS.seq ?_
        refine GS.eg [15] [(93,.slice ak 1 ao),(94,vI 1),(95,vI 0)] [20019,20020,20021,20022,20033] [] [(1,hL 20033 0 0)] [qE ((dm 3).x)] ?_
        refine GS.block ?_
        refine GS.loop ?_
        refine GS.seq ?_
        refine GS.ez [] [(96,.bool true)] [] ?_
        refine GS.seq ?_
        refine GS.cT ?_
        refine GS.skip ?_
        refine GS.seq ?_
        refine GS.block ?_
        refine GS.seq ?_
        refine GS.dg [96] (fun cg => [(17,pA ((cg 2).x) 0)]) [] (fun cg => [(20034,.cells ((cg 2).x) 65 (kc50 b.c6 b.c7 b.c9 b.c10 a.c39 a.c9 a.c10 a.c39 b.c6 b.c7 a9 b.c11.length a8))]) [(0,hA (.idx 20023 0)),(1,hR 20023 0 0 (kc50 b.c6 b.c7 b.c9 b.c10 a.c39 a.c9 a.c10 a.c39 b.c6 b.c7 a9 b.c11.length a8)),(2,hN 20034),(3,hS 20034)] (fun cg => [qE ak,qE (([(kc50 b.c6 b.c7 b.c9 b.c10 a.c39 a.c9 a.c10 a.c39 b.c6 b.c7 a9 b.c11.length a8)] : List (List Value)).length),qE (0 : Int),⟨((Nat.le_of_ble_eq_true rfl) : 0 < 1)⟩,qE (blk ak),qE (offs ak + 0 * 46),qE (some (kc50 b.c6 b.c7 b.c9 b.c10 a.c39 a.c9 a.c10 a.c39 b.c6 b.c7 a9 b.c11.length a8)),qE ((cg 2).x),qE true]) (fun cg => ?_)
        refine GS.seq ?_
        refine GS.seq ?_
        refine GS.eg [] [(101,.bool true)] [] [] [(1,hL 20034 0 0)] [qE ((cg 2).x)] ?_
        refine GS.cT ?_
        refine GS.seq ?_
        refine bnd_elim hm (fun ev gb hm => ?_)
        refine bnd_elim hm (fun ac gc hm => ?_)
        refine GS.xg [101] (fun D => [(18,pA ((D 11).x) 0),(19,vI ac.2.2.2.2.2)]) [] (fun D => [(20038,bag [o31 (((D 7).xs.getD 0 (none,0)).1) (((D 7).xs.getD 1 (none,0)).2) ac.2.2.1,o94 (((D 7).xs.getD 2 (none,0)).1) (((D 7).xs.getD 3 (none,0)).2) ac.2.2.2.1,o91 (((D 7).xs.getD 4 (none,0)).1) (((D 7).xs.getD 5 (none,0)).2) ac.2.2.2.2.1]),(20039,.cells ((D 11).x) 28 (kc15 ac.1 ac.2.1.Epoch ac.2.1.N (((D 7).xs.getD 0 (none,0)).1) ac.2.2.1.length (((D 7).xs.getD 1 (none,0)).2) (((D 7).xs.getD 2 (none,0)).1) ac.2.2.2.1.length (((D 7).xs.getD 3 (none,0)).2) (((D 7).xs.getD 4 (none,0)).1) ac.2.2.2.2.1.length (((D 7).xs.getD 5 (none,0)).2)))]) [(0,hL 10 0 0),(2,hL 20034 0 0),(5,hL 20034 0 0),(6,hC [20024] (.int .u32 ev)),(7,hK (.calln [12,13,14] (fun f => .tuple #[.agg ((kc15 ac.1 ac.2.1.Epoch ac.2.1.N (f.xs.getD 0 (none,0)).1 ac.2.2.1.length (f.xs.getD 1 (none,0)).2 (f.xs.getD 2 (none,0)).1 ac.2.2.2.1.length (f.xs.getD 3 (none,0)).2 (f.xs.getD 4 (none,0)).1 ac.2.2.2.2.1.length (f.xs.getD 5 (none,0)).2)).toArray,vI ac.2.2.2.2.2]) (fun f => bag [o31 (f.xs.getD 0 (none,0)).1 (f.xs.getD 1 (none,0)).2 ac.2.2.1,o94 (f.xs.getD 2 (none,0)).1 (f.xs.getD 3 (none,0)).2 ac.2.2.2.1,o91 (f.xs.getD 4 (none,0)).1 (f.xs.getD 5 (none,0)).2 ac.2.2.2.2.1])) 20038),(11,hN 20039),(12,hS 20039)] (fun D => [qE ((H 1).x),qE ((cg 2).x),qE ((cg 2).x),⟨(w_tholeref01_Crc F a9 a8 b.c11 gb).ok (es := [some (o5 a9 a8 b.c11)]) ⟨(.inl ⟨_,mm0,Cov.osl_rd⟩),trivial⟩⟩,⟨((by have h1 := w_primary_Take F al (S_api_Version.mk am an) T U P V W Q Y Z R (S_api_Entry.mk (S_api_Version.mk b.c6 b.c7) b.c9 b.c10 a.c39 a.c9 a.c10) ev gc; exact CallG.toNB (efs := fun f => [o31 (f.xs.getD 0 (none,0)).1 (f.xs.getD 1 (none,0)).2 ac.2.2.1,o94 (f.xs.getD 2 (none,0)).1 (f.xs.getD 3 (none,0)).2 ac.2.2.2.1,o91 (f.xs.getD 4 (none,0)).1 (f.xs.getD 5 (none,0)).2 ac.2.2.2.2.1]) h1 ⟨(.inl ⟨_,mm0,Cov.osl_rd⟩),(.inl ⟨_,mm1,Cov.osl_rd⟩),(.inl ⟨_,mm2,Cov.osl_rd⟩),trivial⟩ (fun x => ⟨0,none,0,[(x.1,0),(none,x.2.1),(x.2.2.1,0),(none,x.2.2.2.1),(x.2.2.2.2.1,0),(none,x.2.2.2.2.2)],fun _ _ => (none,0)⟩) (fun _ => rfl) (fun _ => rfl) (fun _ => rfl)) : CallN Tryz.prog 8 #[.agg ((kc15 al am an T P.length U V Q.length W Y R.length Z)).toArray,.agg ((kc35 b.c6 b.c7 b.c9 b.c10 a.c39 a.c9 a.c10)).toArray,.int .u32 ev] (fun f => .tuple #[.agg ((kc15 ac.1 ac.2.1.Epoch ac.2.1.N (f.xs.getD 0 (none,0)).1 ac.2.2.1.length (f.xs.getD 1 (none,0)).2 (f.xs.getD 2 (none,0)).1 ac.2.2.2.1.length (f.xs.getD 3 (none,0)).2 (f.xs.getD 4 (none,0)).1 ac.2.2.2.2.1.length (f.xs.getD 5 (none,0)).2)).toArray,vI ac.2.2.2.2.2]) (fun f => bag [o31 (f.xs.getD 0 (none,0)).1 (f.xs.getD 1 (none,0)).2 ac.2.2.1,o94 (f.xs.getD 2 (none,0)).1 (f.xs.getD 3 (none,0)).2 ac.2.2.2.1,o91 (f.xs.getD 4 (none,0)).1 (f.xs.getD 5 (none,0)).2 ac.2.2.2.2.1]) [some (o31 T U P),some (o94 V W Q),some (o91 Y Z R)])⟩,qE ((D 11).x),qE true]) (fun D => ?_)
        refine GS.setMem (fun w hw => hw.ub 20038 [20040,20041,20042] [o31 (((D 7).xs.getD 0 (none,0)).1) (((D 7).xs.getD 1 (none,0)).2) ac.2.2.1,o94 (((D 7).xs.getD 2 (none,0)).1) (((D 7).xs.getD 3 (none,0)).2) ac.2.2.2.1,o91 (((D 7).xs.getD 4 (none,0)).1) (((D 7).xs.getD 5 (none,0)).2) ac.2.2.2.2.1]) ?_
        refine GS.seq ?_
        refine GS.seq ?_
        refine jn_elim hm (fun gd fu hm => ?_)
        refine GS.cu (ι := Bool) (fun (dv : Bool) => gd dv = some y) [19] (fun (dv : Bool) => [(125,.bool dv)]) [] (fun (dv : Bool) => []) ?_ ?_
        rotate_left
        ·intro fo
         refine br_elim hm (fun e7 hm => ?_) (fun e7 hm => ?_)
         ·skip
          refine GS.yg [19] [(125,.bool true)] [] [] [(2,hP (.bool true))] [⟨bool_eq e7⟩] ?_
          exact GS.rs (fo true hm)
         ·skip
          refine bnd_elim hm (fun dy ge hm => ?_)
          refine grd_elim hm (fun gf hm => ?_)
          refine GS.yg [19] [(125,.bool (b.c7 != (dy.N + 1)))] [] [] [(2,hP (.bool false)),(6,hL 20034 0 0),(7,hL 10 0 0),(8,hC [12,13,14] (.agg #[vI dy.Epoch,vI dy.N])),(10,hP (vI (dy.N + 1)))] [⟨bool_eq e7⟩,qE ((cg 2).x),qE ((H 1).x),⟨(w_tholeref13_Head F al (S_api_Version.mk am an) T U P V W Q Y Z R ge).ok (es := [some (o31 T U P),some (o94 V W Q),some (o91 Y Z R)]) ⟨(.inl ⟨_,mm0,Cov.osl_rd⟩),(.inl ⟨_,mm1,Cov.osl_rd⟩),(.inl ⟨_,mm2,Cov.osl_rd⟩),trivial⟩⟩,⟨(I64.w gf : oW (dy.N + 1))⟩] ?_
          exact GS.rs (fo (b.c7 != (dy.N + 1)) hm)
        ·rintro dv hm
         replace hm := (fu _).symm.trans hm
         try dsimp only at hm
         refine GS.cd dv (fun e8 => ?_) (fun e8 => ?_)
         ·replace hm := br_t e8 hm
          refine GS.seq ?_
          refine GS.eg [1,5,7,8,17,18,44,45,46,83,84,85,93,94,95,125] [(4,.bool false)] [1,2,3,5,6,10,12,13,14,20000,20008,20009,20016,20023,20024,20025,20026,20027,20028,20029,20030,20031,20032,20034,20039,20040,20041,20042] [] [] [] ?_
          have hy := Option.some.inj hm
          subst hy
          exact GS.rv [0] [] Tryz.func4 () []
         ·replace hm := br_f e8 hm
          refine GS.skip ?_
          refine GS.seq ?_
          refine GS.eg [18,125] [] [12,13,14,20039] [(10,.cells ((H 1).x) 28 (kc15 ac.1 ac.2.1.Epoch ac.2.1.N (((D 7).xs.getD 0 (none,0)).1) ac.2.2.1.length (((D 7).xs.getD 1 (none,0)).2) (((D 7).xs.getD 2 (none,0)).1) ac.2.2.2.1.length (((D 7).xs.getD 3 (none,0)).2) (((D 7).xs.getD 4 (none,0)).1) ac.2.2.2.2.1.length (((D 7).xs.getD 5 (none,0)).2)))] [(0,hL 20039 0 0),(1,hS 10)] [qE ((D 11).x),qE ((H 1).x),qE true] ?_
          refine GS.kn (p := cq.isNone = false) 20032 (.osl cq cr 3 1 [[vI 1]]) (fun w hw => ne_osl hw) (fun g4 => ?_)
          refine GS.kn (p := 1 ≤ cr) 20032 (.osl cq cr 3 1 [[vI 1]]) (fun w hw => hw.1.1) (fun gg => ?_)
          refine bnd_elim hm (fun el gh hm => ?_)
          refine GS.open_ ?_
          refine GR.eu 12 [] [(127,pA x5 0),(138,.agg ((kc94 b.c6 b.c7 b.c9 b.c10 a.c39 a.c9 a.c10)).toArray)] [] [] [(2,hL 20034 0 0),(4,hL 20034 0 0),(6,hL 20034 0 0),(8,hL 20034 0 0),(10,hL 20034 0 0)] [qE ((cg 2).x),qE ((cg 2).x),qE ((cg 2).x),qE ((cg 2).x),qE ((cg 2).x)] ?_
          refine GR.ch (w___primary_Machine__Step_2 F x5 x6 x7 b.c12 b.c13 b.c14 bk bl b.c15 bm bn b.c16 bo bs b.c17 br bt b4 a.c0 a.c1 a.c2 a.c3 a.c4 a.c5 a.c6 a.c7 a.c8 a.c9 a.c10 a.c11 a.c15 a.c16 a.c17 a.c18 a.c19 a.c20 a.c21 a.c22 a.c23 a.c27 a.c28 a.c29 a.c30 a.c31 a.c32 a.c33 a.c34 a.c35 a.c36 a.c38 a.c39 b3 ct b.c18 a.c41 a.c42 a.c45 b.c6 b.c7 b.c9 b.c10 a.c39 a.c9 a.c10 a.c39 b.c6 b.c7 cs cu b.c19 0 cq cr ab 2 1 2 0 0 3 1 0 0 0 0 0 0 0 0 0 0 0 0 0 b.c6 b.c7 b.c9 b.c10 a.c39 a.c9 a.c10 (ByteArray.mk #[]) 0 0 0 (ByteArray.mk #[]) 0 0 0 gg gh) [20032,20029,5] [20043,20032,20029,5] [127,138] [] ⟨rV 6 (.osl x6 x7 3 1 [[vI 1]]) Cov.osl_rd,rV 20025 (o31 bk bl b.c15) Cov.osl_rd,rV 20026 (o94 bm bn b.c16) Cov.osl_rd,rV 20027 (o91 bo bs b.c17) Cov.osl_rd,rV 20028 (.osl br bt 65 46 []) Cov.osl_rd,rV 20030 (o5 b3 ct b.c18) Cov.osl_rd,rV 20031 (o5 cs cu b.c19) Cov.osl_rd,trivial⟩ ?_
          rintro ⟨dz,ea⟩
          refine GR.dm ?_
          refine GS.seq ?_
          refine GS.eg [] [(142,.bool false)] [20029,20030,20031,20032,20043] [] [(1,hL 20034 0 0)] [qE ((cg 2).x)] ?_
          refine GS.cF ?_
          refine GS.skip ?_
          refine GS.inBlock ?_
          refine GS.eg [17,142] [(95,vI 1)] [20034] [] [] [] ?_
          refine GS.inLoop ?_
          refine GS.seq ?_
          refine GS.ez [] [(96,.bool false)] [] ?_
          refine GS.seq ?_
          refine GS.cF ?_
          refine GS.exit rfl ?_
          refine GS.inBlock ?_
          refine GS.eg [93,94,95,96] [(85,vI ((C + 1 : Nat) : Int))] [20023,20024] [] [(0,hP (vI ((C + 1 : Nat) : Int)))] [⟨(natw (drop_lt db) ej : ((vI (IntKind.i64.wrap ((C : Int) + 1))) : Value) = vI ((C + 1 : Nat) : Int))⟩] ?_
          refine GS.inLoop ?_
          exact GS.rk [(1,1),(2,2),(3,3),(5,5),(6,6),(7,20025),(8,20026),(9,20027),(10,10),(11,20028),(12,20040),(13,20041),(14,20042),(20000,20000),(20008,20008),(20009,20009),(20016,20016)] (eh ⟨dg,C + 1,b.c12,b.c13,b.c14,ab,ac.1,ac.2.1.Epoch,ac.2.1.N,b.c15,b.c16,b.c17,ac.2.2.1,ac.2.2.2.1,ac.2.2.2.2.1,bk,bl,bm,bn,bo,bs,br,bt,((D 7).xs.getD 0 (none,0)).1,((D 7).xs.getD 1 (none,0)).2,((D 7).xs.getD 2 (none,0)).1,((D 7).xs.getD 3 (none,0)).2,((D 7).xs.getD 4 (none,0)).1,((D 7).xs.getD 5 (none,0)).2⟩ ⟨drop_next db,hm⟩ (Nat.lt_succ_self _))
       ·skip
        refine br_elim hm (fun e9 hm => ?_) (fun e9 hm => ?_)
        ·skip
         refine GS.open_ ?_
         refine GR.eu 2 [14] [(89,pA x5 0),(90,.agg ((kc12 a.c0 a.c1 a.c2 a.c3 a.c4 a.c5 a.c6 a.c7 a.c8 a.c9 a.c10 a.c11 a.c15 a.c16 a.c17 a.c18 a.c19 a.c20 a.c21 a.c22 a.c23 a.c27 a.c28 a.c29 a.c30 a.c31 a.c32 a.c33 a.c34 a.c35 a.c36 a.c38 a.c39 (((r C) 0).1) a.c40.length (((r C) 0).2) a.c41 a.c42 a.c45)).toArray)] [20018] [] [(1,hL 20018 0 0)] [qE ((da 2).x)] ?_
         refine GR.cg (CallG.fT e9 (CallG.fF eu (CallG.fF er (CallG.fF ek (w___primary_Machine__Step F x5 x6 x7 au av aw ah ap ae ai aq af aj ar ag ce cf ab a.c0 a.c1 a.c2 a.c3 a.c4 a.c5 a.c6 a.c7 a.c8 a.c9 a.c10 a.c11 a.c15 a.c16 a.c17 a.c18 a.c19 a.c20 a.c21 a.c22 a.c23 a.c27 a.c28 a.c29 a.c30 a.c31 a.c32 a.c33 a.c34 a.c35 a.c36 a.c38 a.c39 (((r C) 0).1) (((r C) 0).2) a.c40 a.c41 a.c42 a.c45 ep))))) [11,5] [20019,20020,20021,20022,20023,20024,20025,20026,20028,20029,20027,5] [89,90] [] ⟨rV 6 (.osl x6 x7 3 1 [[vI 1]]) Cov.osl_rd,rV 7 (o31 ah ap ae) Cov.osl_rd,rV 8 (o94 ai aq af) Cov.osl_rd,rV 9 (o91 aj ar ag) Cov.osl_rd,rR 20017,trivial⟩ ?_
         rintro ⟨_,_,_,⟨ax,bu,az,ba,b2,bv,ay,ak,ao,a9,a8,bk,bl,bm,bn,bo,bs,br,bt,b4,b3⟩,_⟩
         refine GR.du 2 [91] (fun dp => [(15,pA ((dp 3).x) 0)]) [7,8,9,20017] (fun dp => [(20030,.cells ((dp 3).x) 68 (kc62 b.d0 b.d1 b.d2 ax b.d3.length bu az b.d4.length ba b2 b.d5.length bv b.d6 b.d7 b.d8 b.d9 b.d10 b.d11 ay ak))]) [(3,hN 20030),(4,hS 20030)] (fun dp => [qE ((dp 3).x),qE true]) (fun dp => ?_)
         refine GR.dm ?_
         refine GS.seq ?_
         refine GS.eg [15] [(93,.slice ay 1 ak),(94,vI 1),(95,vI 0)] [20019,20020,20021,20030] [] [(1,hL 20030 0 0)] [qE ((dp 3).x)] ?_
         refine GS.block ?_
         refine GS.loop ?_
         refine GS.seq ?_
         refine GS.ez [] [(96,.bool true)] [] ?_
         refine GS.seq ?_
         refine GS.cT ?_
         refine GS.skip ?_
         refine GS.seq ?_
         refine GS.block ?_
         refine GS.seq ?_
         refine GS.dg [96] (fun ch => [(17,pA ((ch 2).x) 0)]) [] (fun ch => [(20031,.cells ((ch 2).x) 65 (kc61 b.d12 b.d13 b.d14 b.d15 a.c39 a.c9 a.c10))]) [(0,hA (.idx 20022 0)),(1,hR 20022 0 0 (kc61 b.d12 b.d13 b.d14 b.d15 a.c39 a.c9 a.c10)),(2,hN 20031),(3,hS 20031)] (fun ch => [qE ay,qE (([(kc61 b.d12 b.d13 b.d14 b.d15 a.c39 a.c9 a.c10)] : List (List Value)).length),qE (0 : Int),⟨((Nat.le_of_ble_eq_true rfl) : 0 < 1)⟩,qE (blk ay),qE (offs ay + 0 * 46),qE (some (kc61 b.d12 b.d13 b.d14 b.d15 a.c39 a.c9 a.c10)),qE ((ch 2).x),qE true]) (fun ch => ?_)
         refine GS.seq ?_
         refine GS.seq ?_
         refine GS.eg [] [(101,.bool true)] [] [] [(1,hL 20031 0 0)] [qE ((ch 2).x)] ?_
         refine GS.cT ?_
         refine GS.seq ?_
         refine bnd_elim hm (fun ew gi hm => ?_)
         refine bnd_elim hm (fun ad gj hm => ?_)
         refine GS.xg [101] (fun G => [(18,pA ((G 11).x) 0),(19,vI ad.2.2.2.2.2)]) [] (fun G => [(20035,bag [o31 (((G 7).xs.getD 0 (none,0)).1) (((G 7).xs.getD 1 (none,0)).2) ad.2.2.1,o94 (((G 7).xs.getD 2 (none,0)).1) (((G 7).xs.getD 3 (none,0)).2) ad.2.2.2.1,o91 (((G 7).xs.getD 4 (none,0)).1) (((G 7).xs.getD 5 (none,0)).2) ad.2.2.2.2.1]),(20036,.cells ((G 11).x) 28 (kc15 ad.1 ad.2.1.Epoch ad.2.1.N (((G 7).xs.getD 0 (none,0)).1) ad.2.2.1.length (((G 7).xs.getD 1 (none,0)).2) (((G 7).xs.getD 2 (none,0)).1) ad.2.2.2.1.length (((G 7).xs.getD 3 (none,0)).2) (((G 7).xs.getD 4 (none,0)).1) ad.2.2.2.2.1.length (((G 7).xs.getD 5 (none,0)).2)))]) [(0,hL 10 0 0),(2,hL 20031 0 0),(5,hL 20031 0 0),(6,hC [] (.int .u32 ew)),(7,hK (.calln [12,13,14] (fun f => .tuple #[.agg ((kc15 ad.1 ad.2.1.Epoch ad.2.1.N (f.xs.getD 0 (none,0)).1 ad.2.2.1.length (f.xs.getD 1 (none,0)).2 (f.xs.getD 2 (none,0)).1 ad.2.2.2.1.length (f.xs.getD 3 (none,0)).2 (f.xs.getD 4 (none,0)).1 ad.2.2.2.2.1.length (f.xs.getD 5 (none,0)).2)).toArray,vI ad.2.2.2.2.2]) (fun f => bag [o31 (f.xs.getD 0 (none,0)).1 (f.xs.getD 1 (none,0)).2 ad.2.2.1,o94 (f.xs.getD 2 (none,0)).1 (f.xs.getD 3 (none,0)).2 ad.2.2.2.1,o91 (f.xs.getD 4 (none,0)).1 (f.xs.getD 5 (none,0)).2 ad.2.2.2.2.1])) 20035),(11,hN 20036),(12,hS 20036)] (fun G => [qE ((H 1).x),qE ((ch 2).x),qE ((ch 2).x),⟨(w_tholeref01_Crc_2 F  gi).ok (es := []) trivial⟩,⟨((by have h1 := w_primary_Take F al (S_api_Version.mk am an) T U P V W Q Y Z R (S_api_Entry.mk (S_api_Version.mk b.d12 b.d13) b.d14 b.d15 a.c39 a.c9 a.c10) ew gj; exact CallG.toNB (efs := fun f => [o31 (f.xs.getD 0 (none,0)).1 (f.xs.getD 1 (none,0)).2 ad.2.2.1,o94 (f.xs.getD 2 (none,0)).1 (f.xs.getD 3 (none,0)).2 ad.2.2.2.1,o91 (f.xs.getD 4 (none,0)).1 (f.xs.getD 5 (none,0)).2 ad.2.2.2.2.1]) h1 ⟨(.inl ⟨_,mm0,Cov.osl_rd⟩),(.inl ⟨_,mm1,Cov.osl_rd⟩),(.inl ⟨_,mm2,Cov.osl_rd⟩),trivial⟩ (fun x => ⟨0,none,0,[(x.1,0),(none,x.2.1),(x.2.2.1,0),(none,x.2.2.2.1),(x.2.2.2.2.1,0),(none,x.2.2.2.2.2)],fun _ _ => (none,0)⟩) (fun _ => rfl) (fun _ => rfl) (fun _ => rfl)) : CallN Tryz.prog 8 #[.agg ((kc15 al am an T P.length U V Q.length W Y R.length Z)).toArray,.agg ((kc35 b.d12 b.d13 b.d14 b.d15 a.c39 a.c9 a.c10)).toArray,.int .u32 ew] (fun f => .tuple #[.agg ((kc15 ad.1 ad.2.1.Epoch ad.2.1.N (f.xs.getD 0 (none,0)).1 ad.2.2.1.length (f.xs.getD 1 (none,0)).2 (f.xs.getD 2 (none,0)).1 ad.2.2.2.1.length (f.xs.getD 3 (none,0)).2 (f.xs.getD 4 (none,0)).1 ad.2.2.2.2.1.length (f.xs.getD 5 (none,0)).2)).toArray,vI ad.2.2.2.2.2]) (fun f => bag [o31 (f.xs.getD 0 (none,0)).1 (f.xs.getD 1 (none,0)).2 ad.2.2.1,o94 (f.xs.getD 2 (none,0)).1 (f.xs.getD 3 (none,0)).2 ad.2.2.2.1,o91 (f.xs.getD 4 (none,0)).1 (f.xs.getD 5 (none,0)).2 ad.2.2.2.2.1]) [some (o31 T U P),some (o94 V W Q),some (o91 Y Z R)])⟩,qE ((G 11).x),qE true]) (fun G => ?_)
         refine GS.setMem (fun w hw => hw.ub 20035 [20037,20038,20039] [o31 (((G 7).xs.getD 0 (none,0)).1) (((G 7).xs.getD 1 (none,0)).2) ad.2.2.1,o94 (((G 7).xs.getD 2 (none,0)).1) (((G 7).xs.getD 3 (none,0)).2) ad.2.2.2.1,o91 (((G 7).xs.getD 4 (none,0)).1) (((G 7).xs.getD 5 (none,0)).2) ad.2.2.2.2.1]) ?_
         refine GS.seq ?_
         refine GS.seq ?_
         refine jn_elim hm (fun gk fv hm => ?_)
         refine GS.cu (ι := Bool) (fun (dw : Bool) => gk dw = some y) [19] (fun (dw : Bool) => [(125,.bool dw)]) [] (fun (dw : Bool) => []) ?_ ?_
         rotate_left
         ·intro fp
          refine br_elim hm (fun fa hm => ?_) (fun fa hm => ?_)
          ·skip
           refine GS.yg [19] [(125,.bool true)] [] [] [(2,hP (.bool true))] [⟨bool_eq fa⟩] ?_
           exact GS.rs (fp true hm)
          ·skip
           refine bnd_elim hm (fun eb gl hm => ?_)
           refine grd_elim hm (fun gm hm => ?_)
           refine GS.yg [19] [(125,.bool (b.d13 != (eb.N + 1)))] [] [] [(2,hP (.bool false)),(6,hL 20031 0 0),(7,hL 10 0 0),(8,hC [12,13,14] (.agg #[vI eb.Epoch,vI eb.N])),(10,hP (vI (eb.N + 1)))] [⟨bool_eq fa⟩,qE ((ch 2).x),qE ((H 1).x),⟨(w_tholeref13_Head F al (S_api_Version.mk am an) T U P V W Q Y Z R gl).ok (es := [some (o31 T U P),some (o94 V W Q),some (o91 Y Z R)]) ⟨(.inl ⟨_,mm0,Cov.osl_rd⟩),(.inl ⟨_,mm1,Cov.osl_rd⟩),(.inl ⟨_,mm2,Cov.osl_rd⟩),trivial⟩⟩,⟨(I64.w gm : oW (eb.N + 1))⟩] ?_
           exact GS.rs (fp (b.d13 != (eb.N + 1)) hm)
         ·rintro dw hm
          replace hm := (fv _).symm.trans hm
          try dsimp only at hm
          refine GS.cd dw (fun fb => ?_) (fun fb => ?_)
          ·replace hm := br_t fb hm
           refine GS.seq ?_
           refine GS.eg [1,5,7,8,17,18,44,45,46,83,84,85,93,94,95,125] [(4,.bool false)] [1,2,3,5,6,10,12,13,14,20000,20008,20009,20016,20022,20023,20024,20025,20026,20027,20028,20029,20031,20036,20037,20038,20039] [] [] [] ?_
           have hy := Option.some.inj hm
           subst hy
           exact GS.rv [0] [] Tryz.func4 () []
          ·replace hm := br_f fb hm
           refine GS.skip ?_
           refine GS.seq ?_
           refine GS.eg [18,125] [] [12,13,14,20036] [(10,.cells ((H 1).x) 28 (kc15 ad.1 ad.2.1.Epoch ad.2.1.N (((G 7).xs.getD 0 (none,0)).1) ad.2.2.1.length (((G 7).xs.getD 1 (none,0)).2) (((G 7).xs.getD 2 (none,0)).1) ad.2.2.2.1.length (((G 7).xs.getD 3 (none,0)).2) (((G 7).xs.getD 4 (none,0)).1) ad.2.2.2.2.1.length (((G 7).xs.getD 5 (none,0)).2)))] [(0,hL 20036 0 0),(1,hS 10)] [qE ((G 11).x),qE ((H 1).x),qE true] ?_
           refine GS.kn (p := b4.isNone = false) 20029 (.osl b4 b3 3 1 [[vI 1]]) (fun w hw => ne_osl hw) (fun g5 => ?_)
           refine GS.kn (p := 1 ≤ b3) 20029 (.osl b4 b3 3 1 [[vI 1]]) (fun w hw => hw.1.1) (fun gn => ?_)
           refine bnd_elim hm (fun em go hm => ?_)
           refine GS.open_ ?_
           refine GR.eu 12 [] [(127,pA x5 0),(138,.agg ((kc94 b.d12 b.d13 b.d14 b.d15 a.c39 a.c9 a.c10)).toArray)] [] [] [(2,hL 20031 0 0),(4,hL 20031 0 0),(6,hL 20031 0 0),(8,hL 20031 0 0),(10,hL 20031 0 0)] [qE ((ch 2).x),qE ((ch 2).x),qE ((ch 2).x),qE ((ch 2).x),qE ((ch 2).x)] ?_
           refine GR.ch (w___primary_Machine__Step_3 F x5 x6 x7 b.d16 b.d17 b.d18 ao a9 b.d19 a8 bk b.d20 bl bm b.d21 bn bo bs a.c0 a.c1 a.c2 a.c3 a.c4 a.c5 a.c6 a.c7 a.c8 a.c9 a.c10 a.c11 a.c15 a.c16 a.c17 a.c18 a.c19 a.c20 a.c21 a.c22 a.c23 a.c27 a.c28 a.c29 a.c30 a.c31 a.c32 a.c33 a.c34 a.c35 a.c36 a.c38 a.c39 br bt b.d22 a.c41 a.c42 a.c45 b.d12 b.d13 b.d14 b.d15 a.c39 a.c9 a.c10 (ByteArray.mk #[]) 0 0 0 b4 b3 ab 2 1 2 0 0 3 1 0 0 0 0 0 0 0 0 0 0 0 0 0 b.d12 b.d13 b.d14 b.d15 a.c39 a.c9 a.c10 (ByteArray.mk #[]) 0 0 0 (ByteArray.mk #[]) 0 0 0 gn go) [20029,20027,5] [20040,20029,20027,5] [127,138] [] ⟨rV 6 (.osl x6 x7 3 1 [[vI 1]]) Cov.osl_rd,rV 20023 (o31 ao a9 b.d19) Cov.osl_rd,rV 20024 (o94 a8 bk b.d20) Cov.osl_rd,rV 20025 (o91 bl bm b.d21) Cov.osl_rd,rV 20026 (.osl bn bo 65 46 []) Cov.osl_rd,rV 20028 (o5 br bt b.d22) Cov.osl_rd,trivial⟩ ?_
           rintro ⟨ec,ed⟩
           refine GR.dm ?_
           refine GS.seq ?_
           refine GS.eg [] [(142,.bool false)] [20027,20028,20029,20040] [] [(1,hL 20031 0 0)] [qE ((ch 2).x)] ?_
           refine GS.cF ?_
           refine GS.skip ?_
           refine GS.inBlock ?_
           refine GS.eg [17,142] [(95,vI 1)] [20031] [] [] [] ?_
           refine GS.inLoop ?_
           refine GS.seq ?_
           refine GS.ez [] [(96,.bool false)] [] ?_
           refine GS.seq ?_
           refine GS.cF ?_
           refine GS.exit rfl ?_
           refine GS.inBlock ?_
           refine GS.eg [93,94,95,96] [(85,vI ((C + 1 : Nat) : Int))] [20022] [] [(0,hP (vI ((C + 1 : Nat) : Int)))] [⟨(natw (drop_lt db) ej : ((vI (IntKind.i64.wrap ((C : Int) + 1))) : Value) = vI ((C + 1 : Nat) : Int))⟩] ?_
           refine GS.inLoop ?_
           exact GS.rk [(1,1),(2,2),(3,3),(5,5),(6,6),(7,20023),(8,20024),(9,20025),(10,10),(11,20026),(12,20037),(13,20038),(14,20039),(20000,20000),(20008,20008),(20009,20009),(20016,20016)] (eh ⟨dg,C + 1,b.d16,b.d17,b.d18,ab,ad.1,ad.2.1.Epoch,ad.2.1.N,b.d19,b.d20,b.d21,ad.2.2.1,ad.2.2.2.1,ad.2.2.2.2.1,ao,a9,a8,bk,bl,bm,bn,bo,((G 7).xs.getD 0 (none,0)).1,((G 7).xs.getD 1 (none,0)).2,((G 7).xs.getD 2 (none,0)).1,((G 7).xs.getD 3 (none,0)).2,((G 7).xs.getD 4 (none,0)).1,((G 7).xs.getD 5 (none,0)).2⟩ ⟨drop_next db,hm⟩ (Nat.lt_succ_self _))
        ·skip
         refine GS.open_ ?_
         refine GR.eu 2 [14] [(89,pA x5 0),(90,.agg ((kc12 a.c0 a.c1 a.c2 a.c3 a.c4 a.c5 a.c6 a.c7 a.c8 a.c9 a.c10 a.c11 a.c15 a.c16 a.c17 a.c18 a.c19 a.c20 a.c21 a.c22 a.c23 a.c27 a.c28 a.c29 a.c30 a.c31 a.c32 a.c33 a.c34 a.c35 a.c36 a.c38 a.c39 (((r C) 0).1) a.c40.length (((r C) 0).2) a.c41 a.c42 a.c45)).toArray)] [20018] [] [(1,hL 20018 0 0)] [qE ((da 2).x)] ?_
         refine GR.cg (CallG.fF e9 (CallG.fF eu (CallG.fF er (CallG.fF ek (w___primary_Machine__Step F x5 x6 x7 au av aw ah ap ae ai aq af aj ar ag ce cf ab a.c0 a.c1 a.c2 a.c3 a.c4 a.c5 a.c6 a.c7 a.c8 a.c9 a.c10 a.c11 a.c15 a.c16 a.c17 a.c18 a.c19 a.c20 a.c21 a.c22 a.c23 a.c27 a.c28 a.c29 a.c30 a.c31 a.c32 a.c33 a.c34 a.c35 a.c36 a.c38 a.c39 (((r C) 0).1) (((r C) 0).2) a.c40 a.c41 a.c42 a.c45 ep))))) [11,5] [20019,20020,20022,20023,20021,5] [89,90] [] ⟨rV 6 (.osl x6 x7 3 1 [[vI 1]]) Cov.osl_rd,rV 7 (o31 ah ap ae) Cov.osl_rd,rV 8 (o94 ai aq af) Cov.osl_rd,rV 9 (o91 aj ar ag) Cov.osl_rd,rR 20017,trivial⟩ ?_
         rintro ⟨_,_,_,_,⟨ax,bu,az,ba,b2,bv,ay,ak,ao⟩⟩
         refine GR.du 2 [91] (fun dq => [(15,pA ((dq 3).x) 0)]) [20017] (fun dq => [(20024,.cells ((dq 3).x) 68 (kc30 ax bu))]) [(3,hN 20024),(4,hS 20024)] (fun dq => [qE ((dq 3).x),qE true]) (fun dq => ?_)
         refine GR.dm ?_
         refine GS.seq ?_
         refine GS.eg [15] [(93,.slice ax 1 bu),(94,vI 1),(95,vI 0)] [20024] [] [(1,hL 20024 0 0)] [qE ((dq 3).x)] ?_
         refine GS.block ?_
         refine GS.loop ?_
         refine GS.seq ?_
         refine GS.ez [] [(96,.bool true)] [] ?_
         refine GS.seq ?_
         refine GS.cT ?_
         refine GS.skip ?_
         refine GS.seq ?_
         refine GS.block ?_
         refine GS.seq ?_
         refine GS.dg [96] (fun cm => [(17,pA ((cm 2).x) 0)]) [] (fun cm => [(20025,.cells ((cm 2).x) 65 (kc66 b.e0))]) [(0,hA (.idx 20019 0)),(1,hR 20019 0 0 (kc66 b.e0)),(2,hN 20025),(3,hS 20025)] (fun cm => [qE ax,qE (([(kc66 b.e0)] : List (List Value)).length),qE (0 : Int),⟨((Nat.le_of_ble_eq_true rfl) : 0 < 1)⟩,qE (blk ax),qE (offs ax + 0 * 46),qE (some (kc66 b.e0)),qE ((cm 2).x),qE true]) (fun cm => ?_)
         refine GS.seq ?_
         refine GS.seq ?_
         refine GS.eg [] [(101,.bool false)] [] [] [(1,hL 20025 0 0)] [qE ((cm 2).x)] ?_
         refine GS.cF ?_
         refine GS.skip ?_
         refine GS.seq ?_
         refine GS.eg [101] [(142,.bool true)] [] [] [(1,hL 20025 0 0)] [qE ((cm 2).x)] ?_
         refine GS.cT ?_
         refine GS.seq ?_
         refine GS.kn (p := ak.isNone = false) 20023 (.osl ak ao 3 1 [[vI 1]]) (fun w hw => ne_osl hw) (fun g6 => ?_)
         refine GS.kn (p := 1 ≤ ao) 20023 (.osl ak ao 3 1 [[vI 1]]) (fun w hw => hw.1.1) (fun fc => ?_)
         refine jn_elim hm (fun gp fw hm => ?_)
         refine GS.cu (ι := Unit) (fun (_ : Unit) => gp () = some y) [17,142] (fun (_ : Unit) => []) [20021,20022,20023,20025] (fun (_ : Unit) => [(5,.cells x5 80 (kc11 x6 x7 au av aw ah ae.length ap ai af.length aq aj ag.length ar az ba b.e0))]) ?_ ?_
         rotate_left
         ·intro fq
          refine bnd_elim hm (fun en fd hm => ?_)
          refine br_elim hm (fun ex hm => ?_) (fun ex hm => ?_)
          ·skip
           refine GS.open_ ?_
           refine GR.eu 12 [17,142] [(143,pA x5 0),(154,.agg ((kc112 b.e0)).toArray)] [20025] [] [(2,hL 20025 0 0),(4,hL 20025 0 0),(6,hL 20025 0 0),(8,hL 20025 0 0),(10,hL 20025 0 0)] [qE ((cm 2).x),qE ((cm 2).x),qE ((cm 2).x),qE ((cm 2).x),qE ((cm 2).x)] ?_
           refine GR.ch (CallG.fT ex (w___primary_Machine__Step_4 F x5 x6 x7 au av aw ah ap ae ai aq af aj ar ag az ba b2 a.c0 a.c1 a.c2 a.c3 a.c4 a.c5 a.c6 a.c7 a.c8 a.c9 a.c10 a.c11 a.c15 a.c16 a.c17 a.c18 a.c19 a.c20 a.c21 a.c22 a.c23 a.c27 a.c28 a.c29 a.c30 a.c31 a.c32 a.c33 a.c34 a.c35 a.c36 a.c38 a.c39 bv ay b.e1 a.c41 a.c42 a.c45 0 0 false 0 (ByteArray.mk #[]) 0 0 (ByteArray.mk #[]) 0 0 b.e0 ak ao b.e0 2 1 2 0 0 3 1 0 0 b.e0 0 0 0 0 0 0 0 0 0 0 0 0 false 0 (ByteArray.mk #[]) 0 0 (ByteArray.mk #[]) 0 0 0 (ByteArray.mk #[]) 0 0 0 fc fd)) [20023,20021,5] [20026,20023,20021,5] [143,154] [] ⟨rV 6 (.osl x6 x7 3 1 [[vI 1]]) Cov.osl_rd,rV 7 (o31 ah ap ae) Cov.osl_rd,rV 8 (o94 ai aq af) Cov.osl_rd,rV 9 (o91 aj ar ag) Cov.osl_rd,rV 20020 (.osl az ba 65 46 []) Cov.osl_rd,rV 20022 (o5 bv ay b.e1) Cov.osl_rd,trivial⟩ ?_
           rintro ⟨⟨ee,di⟩,_,_⟩
           refine GR.dm ?_
           exact GS.rs (fq () hm)
          ·skip
           refine br_elim hm (fun fe hm => ?_) (fun fe hm => ?_)
           ·skip
            refine GS.open_ ?_
            refine GR.eu 12 [17,142] [(143,pA x5 0),(154,.agg ((kc112 b.e0)).toArray)] [20025] [] [(2,hL 20025 0 0),(4,hL 20025 0 0),(6,hL 20025 0 0),(8,hL 20025 0 0),(10,hL 20025 0 0)] [qE ((cm 2).x),qE ((cm 2).x),qE ((cm 2).x),qE ((cm 2).x),qE ((cm 2).x)] ?_
            refine GR.ch (CallG.fT fe (CallG.fF ex (w___primary_Machine__Step_4 F x5 x6 x7 au av aw ah ap ae ai aq af aj ar ag az ba b2 a.c0 a.c1 a.c2 a.c3 a.c4 a.c5 a.c6 a.c7 a.c8 a.c9 a.c10 a.c11 a.c15 a.c16 a.c17 a.c18 a.c19 a.c20 a.c21 a.c22 a.c23 a.c27 a.c28 a.c29 a.c30 a.c31 a.c32 a.c33 a.c34 a.c35 a.c36 a.c38 a.c39 bv ay b.e1 a.c41 a.c42 a.c45 0 0 false 0 (ByteArray.mk #[]) 0 0 (ByteArray.mk #[]) 0 0 b.e0 ak ao b.e0 2 1 2 0 0 3 1 0 0 b.e0 0 0 0 0 0 0 0 0 0 0 0 0 false 0 (ByteArray.mk #[]) 0 0 (ByteArray.mk #[]) 0 0 0 (ByteArray.mk #[]) 0 0 0 fc fd))) [20023,20021,5] [20027,20026,20023,20021,5] [143,154] [] ⟨rV 6 (.osl x6 x7 3 1 [[vI 1]]) Cov.osl_rd,rV 7 (o31 ah ap ae) Cov.osl_rd,rV 8 (o94 ai aq af) Cov.osl_rd,rV 9 (o91 aj ar ag) Cov.osl_rd,rV 20020 (.osl az ba 65 46 []) Cov.osl_rd,rV 20022 (o5 bv ay b.e1) Cov.osl_rd,trivial⟩ ?_
            rintro ⟨_,⟨di,ef,dt,du⟩,_⟩
            refine GR.dm ?_
            exact GS.rs (fq () hm)
           ·skip
            refine GS.open_ ?_
            refine GR.eu 12 [17,142] [(143,pA x5 0),(154,.agg ((kc112 b.e0)).toArray)] [20025] [] [(2,hL 20025 0 0),(4,hL 20025 0 0),(6,hL 20025 0 0),(8,hL 20025 0 0),(10,hL 20025 0 0)] [qE ((cm 2).x),qE ((cm 2).x),qE ((cm 2).x),qE ((cm 2).x),qE ((cm 2).x)] ?_
            refine GR.ch (CallG.fF fe (CallG.fF ex (w___primary_Machine__Step_4 F x5 x6 x7 au av aw ah ap ae ai aq af aj ar ag az ba b2 a.c0 a.c1 a.c2 a.c3 a.c4 a.c5 a.c6 a.c7 a.c8 a.c9 a.c10 a.c11 a.c15 a.c16 a.c17 a.c18 a.c19 a.c20 a.c21 a.c22 a.c23 a.c27 a.c28 a.c29 a.c30 a.c31 a.c32 a.c33 a.c34 a.c35 a.c36 a.c38 a.c39 bv ay b.e1 a.c41 a.c42 a.c45 0 0 false 0 (ByteArray.mk #[]) 0 0 (ByteArray.mk #[]) 0 0 b.e0 ak ao b.e0 2 1 2 0 0 3 1 0 0 b.e0 0 0 0 0 0 0 0 0 0 0 0 0 false 0 (ByteArray.mk #[]) 0 0 (ByteArray.mk #[]) 0 0 0 (ByteArray.mk #[]) 0 0 0 fc fd))) [20023,20021,5] [20023,20021,5] [143,154] [] ⟨rV 6 (.osl x6 x7 3 1 [[vI 1]]) Cov.osl_rd,rV 7 (o31 ah ap ae) Cov.osl_rd,rV 8 (o94 ai aq af) Cov.osl_rd,rV 9 (o91 aj ar ag) Cov.osl_rd,rV 20020 (.osl az ba 65 46 []) Cov.osl_rd,rV 20022 (o5 bv ay b.e1) Cov.osl_rd,trivial⟩ ?_
            rintro ⟨_,_,_⟩
            refine GR.dm ?_
            refine bnd_elim hm (fun g7 gq hm => ?_)
            refine GS.open_ ?_
            refine GR.eu 2 [] [(156,pA x5 0),(157,.agg ((kc42)).toArray)] [] [] [] [] ?_
            refine GR.ch (w___primary_Machine__Got_2 F x5 x6 x7 au av aw ah ap ae ai aq af aj ar ag az ba b2 a.c0 a.c1 a.c2 a.c3 a.c4 a.c5 a.c6 a.c7 a.c8 a.c9 a.c10 a.c11 a.c15 a.c16 a.c17 a.c18 a.c19 a.c20 a.c21 a.c22 a.c23 a.c27 a.c28 a.c29 a.c30 a.c31 a.c32 a.c33 a.c34 a.c35 a.c36 a.c38 a.c39 bv ay b.e1 a.c41 a.c42 a.c45 0 0 false 0 (ByteArray.mk #[]) 0 0 (ByteArray.mk #[]) 0 0 b.e0 ak ao b.e0 gq) [5] [20026,5] [156,157] [] ⟨rV 6 (.osl x6 x7 3 1 [[vI 1]]) Cov.osl_rd,rV 7 (o31 ah ap ae) Cov.osl_rd,rV 8 (o94 ai aq af) Cov.osl_rd,rV 9 (o91 aj ar ag) Cov.osl_rd,rV 20020 (.osl az ba 65 46 []) Cov.osl_rd,rV 20022 (o5 bv ay b.e1) Cov.osl_rd,rV 20023 (.osl ak ao 3 1 []) Cov.osl_rd,rV 20021 (.cells b2 104 (kc115 a.c0 a.c1 a.c2 a.c3 a.c4 a.c5 a.c6 a.c7 a.c8 a.c9 a.c10 a.c11 a.c15 a.c16 a.c17 a.c18 a.c19 a.c20 a.c21 a.c22 a.c23 a.c27 a.c28 a.c29 a.c30 a.c31 a.c32 a.c33 a.c34 a.c35 a.c36 a.c38 a.c39 bv b.e1.length ay a.c41 a.c42 a.c45 b.e0 ak ao)) Cov.cells_rd,trivial⟩ ?_
            rintro eg
            refine GR.dm ?_
            refine GS.inBlock ?_
            refine GS.eg [] [(95,vI 1)] [20021,20022,20023,20026] [] [] [] ?_
            refine GS.inLoop ?_
            refine GS.seq ?_
            refine GS.ez [] [(96,.bool false)] [] ?_
            refine GS.seq ?_
            refine GS.cF ?_
            refine GS.exit rfl ?_
            refine GS.inBlock ?_
            refine GS.eg [93,94,95,96] [(85,vI ((C + 1 : Nat) : Int))] [20019] [] [(0,hP (vI ((C + 1 : Nat) : Int)))] [⟨(natw (drop_lt db) ej : ((vI (IntKind.i64.wrap ((C : Int) + 1))) : Value) = vI ((C + 1 : Nat) : Int))⟩] ?_
            refine GS.inLoop ?_
            exact GS.rk [(1,1),(2,2),(3,3),(5,5),(6,6),(7,7),(8,8),(9,9),(10,10),(11,20020),(12,12),(13,13),(14,14),(20000,20000),(20008,20008),(20009,20009),(20016,20016)] (eh ⟨dg,C + 1,au,av,aw,b.e0,al,am,an,ae,af,ag,P,Q,R,ah,ap,ai,aq,aj,ar,az,ba,T,U,V,W,Y,Z⟩ ⟨drop_next db,hm⟩ (Nat.lt_succ_self _))
         ·rintro _ hm
          replace hm := (fw _).symm.trans hm
          try dsimp only at hm
          refine bnd_elim hm (fun g8 gr hm => ?_)
          refine GS.eg [] [] [] [] [(2,hC [5,6,7,8,9,20020] (.agg ((kc13)).toArray))] [⟨(w___primary_Machine__Got F x5 x6 x7 au av aw ah ap ae ai aq af aj ar ag az ba b.e0 gr).ok (es := [some (.cells x5 80 (kc11 x6 x7 au av aw ah ae.length ap ai af.length aq aj ag.length ar az ba b.e0)),some (.osl x6 x7 3 1 [[vI 1]]),some (o31 ah ap ae),some (o94 ai aq af),some (o91 aj ar ag),some (.osl az ba 65 46 [])]) ⟨(.inl ⟨_,mm1,Cov.osl_rd⟩),(.inl ⟨_,mm2,Cov.osl_rd⟩),(.inl ⟨_,mm3,Cov.osl_rd⟩),(.inl ⟨_,mm4,Cov.osl_rd⟩),(.inl ⟨_,mm5,Cov.osl_rd⟩),(.inl ⟨_,mm0,Cov.cells_rd⟩),trivial⟩⟩] ?_
          refine GS.inBlock ?_
          refine GS.ez [] [(95,vI 1)] [] ?_
          refine GS.inLoop ?_
          refine GS.seq ?_
          refine GS.ez [] [(96,.bool false)] [] ?_
          refine GS.seq ?_
          refine GS.cF ?_
          refine GS.exit rfl ?_
          refine GS.inBlock ?_
          refine GS.eg [93,94,95,96] [(85,vI ((C + 1 : Nat) : Int))] [20019] [] [(0,hP (vI ((C + 1 : Nat) : Int)))] [⟨(natw (drop_lt db) ej : ((vI (IntKind.i64.wrap ((C : Int) + 1))) : Value) = vI ((C + 1 : Nat) : Int))⟩] ?_
          refine GS.inLoop ?_
          exact GS.rk [(1,1),(2,2),(3,3),(5,5),(6,6),(7,7),(8,8),(9,9),(10,10),(11,20020),(12,12),(13,13),(14,14),(20000,20000),(20008,20008),(20009,20009),(20016,20016)] (eh ⟨dg,C + 1,au,av,aw,b.e0,al,am,an,ae,af,ag,P,Q,R,ah,ap,ai,aq,aj,ar,az,ba,T,U,V,W,Y,Z⟩ ⟨drop_next db,hm⟩ (Nat.lt_succ_self _))

end Go.Proofs.YtjnbkhnebmlilaaGreat
