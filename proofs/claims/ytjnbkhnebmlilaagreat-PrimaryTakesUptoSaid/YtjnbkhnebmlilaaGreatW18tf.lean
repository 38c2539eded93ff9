/-
  CHAPTER 18t: the functions do what their models say (6).
-/
import Derived.Test.YtjnbkhnebmlilaaGreatE18t
import Derived.Test.YtjnbkhnebmlilaaGreatW18tb
import Derived.Test.YtjnbkhnebmlilaaGreatW18td
import Derived.Test.YtjnbkhnebmlilaaGreatW18te
set_option linter.unusedVariables false
set_option linter.unusedSimpArgs false
set_option maxRecDepth 100000
set_option maxHeartbeats 8000000
namespace Go.Proofs.YtjnbkhnebmlilaaGreat
open Go Go.RowKit Sx

theorem w_tholelaw18_lives (F : Nat) {y : Unit} (hm : m_tholelaw18_lives F = some y) : CallG Tryz.prog 7 #[] (X := Unit) (fun (_ : Unit) => .bool true) [] [] (fun (_ : Unit) => []) := by
  intro w hg
  rw [m_tholelaw18_lives] at hm
  refine GS.start (S := mayT [] []) (mem := []) Tryz.func7 rfl Tryz.ntmps7 (Nat.le_of_ble_eq_true rfl) (hg.start rfl) ?_
  refine GS.conv (env' := []) rfl rfl ?_
  refine GS.seq ?_
  refine GS.tzM (fun _ => []) [] ?_
  intro _
  refine GS.seq ?_
  refine bnd_elim hm (fun y3 e4 hm => ?_)
  refine GS.open_ ?_
  refine GR.ru (i := 0) 3 (env' := fun Z => [(7,.agg #[vI 1,vI 0]),(8,.slice (some (Addr.mk (Z 1).x 0 none)) 2 2),(9,.agg ((kc5)).toArray)]) (mem' := fun Z => [(1,.osl (some (Addr.mk (Z 1).x 0 none)) 2 3 1 [[vI 0],[vI 1]])]) (by kernel_rfl) (RunsTo.mk [(1,{ act := .new (.row 2 1),key := some 1 })] [7,8,9] [1] (fun Z => []) (fun Z => by kernel_rfl) (fun Z => trivial)) ?_
  intro Z
  refine GR.callG (X := Nat × Option Addr × Nat × Option Addr × Nat × Option Addr × Nat × Option Addr × Nat) (i := 3) (g := 15) (args := #[.agg #[vI 1,vI 0],vI 3,vI 0,vI 9,.slice (some (Addr.mk (Z 1).x 0 none)) 2 2,.agg ((kc5)).toArray]) (v := fun ⟨x5,x6,x7,x8,x9,B,G,C,H⟩ => .tuple #[pA x5 0,vI 0]) (own := []) (ro := [.rd (some (Addr.mk (Z 1).x 0 none)) 1 [[vI 0],[vI 1]]]) (es' := fun ⟨x5,x6,x7,x8,x9,B,G,C,H⟩ => [.cells x5 80 (kc10 x6 x7 x8 x9 B G C H),.osl x6 x7 3 1 [[vI 1]],.osl x8 x9 31 7 [],.osl B G 94 5 [],.osl C H 91 4 []]) (mem' := fun ⟨x5,x6,x7,x8,x9,B,G,C,H⟩ => [(1,.osl (some (Addr.mk (Z 1).x 0 none)) 2 3 1 [[vI 0],[vI 1]]),(2,.cells x5 80 (kc10 x6 x7 x8 x9 B G C H)),(3,.osl x6 x7 3 1 [[vI 1]]),(4,.osl x8 x9 31 7 []),(5,.osl B G 94 5 []),(6,.osl C H 91 4 [])]) (env' := fun ⟨x5,x6,x7,x8,x9,B,G,C,H⟩ => [(10,.tuple #[pA x5 0,vI 0])]) [] [2,3,4,5,6] [10] [1,2,3,4,5,6] false (by kernel_rfl) (by kernel_rfl) (by kernel_rfl) (by kernel_rfl) (by kernel_rfl) (fun _ => rfl) (fun _ _ => rfl) ⟨(.inl ⟨1,_,rfl,rfl,Cov.osl_rd,fun h => by cases h⟩),trivial⟩ (by rintro ⟨x5,x6,x7,x8,x9,B,G,C,H⟩; kernel_rfl) (by rintro ⟨x5,x6,x7,x8,x9,B,G,C,H⟩; kernel_rfl) ((by have h1 := w_primary_New F (some (Addr.mk (Z 1).x 0 none)) 2 e4; exact h1)) ?_
  rintro ⟨x5,x6,x7,x8,x9,B,G,C,H⟩
  refine GR.ru (i := 4) 5 (env' := fun _ => [(1,pA x5 0),(2,vI 0)]) (mem' := fun _ => [(2,.cells x5 80 (kc10 x6 x7 x8 x9 B G C H)),(3,.osl x6 x7 3 1 [[vI 1]]),(4,.osl x8 x9 31 7 []),(5,.osl B G 94 5 []),(6,.osl C H 91 4 [])]) (by kernel_rfl) (RunsTo.mk [] [1,2] [2,3,4,5,6] (fun _ => []) (fun _ => by kernel_rfl) (fun _ => trivial)) ?_
  intro _
  refine GR.dn (by kernel_rfl) ?_
  refine GS.seq ?_
  refine GS.seq ?_
  refine GS.tzM (fun _ => [(1,pA x5 0),(18,.bool false)]) [] ?_
  intro _
  refine GS.cond (t := false) rfl rfl (fun hf => by cases hf) (fun _ => ?_)
  refine GS.skip ?_
  refine GS.seq ?_
  refine GS.tg (fun a => [(1,pA x5 0),(3,pA ((a 7).x) 0)]) (fun a => [(2,.cells x5 80 (kc10 x6 x7 x8 x9 B G C H)),(3,.osl x6 x7 3 1 [[vI 1]]),(4,.osl x8 x9 31 7 []),(5,.osl B G 94 5 []),(6,.osl C H 91 4 []),(7,.osl (some (Addr.mk (a 3).x 0 none)) 1 5 1 [[.int .u8 120]]),(8,.cells ((a 7).x) 65 (kc11 (some (Addr.mk (a 3).x 0 none))))]) [(3,{ act := .new (.row 1 1),key := some 7 }),(4,{ act := .markS,key := some 7 }),(7,{ act := .new .var,key := some 8 }),(8,{ act := .store 0 0 [],key := some 8 })] (fun a => [(some (Addr.mk (a 3).x 0 none)) = (some (Addr.mk (a 3).x 0 none)),1 ≠ 0,(a 7).x = (a 7).x,oC (.agg ((kc11 (some (Addr.mk (a 3).x 0 none)))).toArray)]) (fun a => ⟨rfl,(by decide),rfl,rfl,trivial⟩) ?_
  intro a
  refine GS.seq ?_
  refine bnd_elim hm (fun I aa hm => ?_)
  refine GS.open_ ?_
  refine GR.ru (i := 0) 2 (env' := fun _ => [(1,pA x5 0),(26,pA x5 0),(27,.agg ((kc11 (some (Addr.mk (a 3).x 0 none)))).toArray)]) (mem' := fun _ => [(2,.cells x5 80 (kc10 x6 x7 x8 x9 B G C H)),(3,.osl x6 x7 3 1 [[vI 1]]),(4,.osl x8 x9 31 7 []),(5,.osl B G 94 5 []),(6,.osl C H 91 4 []),(7,.osl (some (Addr.mk (a 3).x 0 none)) 1 5 1 [[.int .u8 120]])]) (by kernel_rfl) (RunsTo.mk [(1,{ act := .load 8 0 0 [] })] [1,26,27] [2,3,4,5,6,7] (fun _ => [(a 7).x = (a 7).x]) (fun _ => by kernel_rfl) (fun _ => ⟨rfl,trivial⟩)) ?_
  intro _
  refine GR.callG (X := Option Addr × Nat × Option Addr × Nat × Option Addr × Nat × Option Addr × Nat × Nat × Option Addr × Nat × Option Addr × Nat × Option Addr × Nat × Option Addr × Nat × Option Addr × Nat × Option Addr × Nat × Option Addr × Nat × Option Addr × Nat × Option Addr × Nat) (i := 2) (g := 16) (args := #[pA x5 0,.agg ((kc11 (some (Addr.mk (a 3).x 0 none)))).toArray]) (v := fun ⟨b,e,c,f,d,j,J,K,s,n,u,o,z,l,m,L,M,N,O,P,Q,R,T,q,U,D,E⟩ => .agg ((kc37 L M N O P Q R T q U)).toArray) (own := [.cells x5 80 (kc10 x6 x7 x8 x9 B G C H)]) (ro := [.rd x6 1 [[vI 1]],.rd x8 7 [],.rd B 5 [],.rd C 4 [],.rd (some (Addr.mk (a 3).x 0 none)) 1 [[.int .u8 120]]]) (es' := fun ⟨b,e,c,f,d,j,J,K,s,n,u,o,z,l,m,L,M,N,O,P,Q,R,T,q,U,D,E⟩ => [.cells x5 80 (kc29 x6 x7 b e c f d j J K s),.osl b e 31 7 [(kc19)],.osl c f 94 5 [(kc24)],.osl d j 91 4 [(kc26 I.1)],.cells s 104 (kc22 n u o z l m),.osl n u 5 1 [[.int .u8 120]],.osl o z 5 1 [[.int .u8 120]],.osl l m 3 1 [[vI 1]],.osl L M 31 7 [(kc19)],.osl N O 94 5 [(kc24)],.osl P Q 91 4 [(kc26 I.2)],.osl R T 5 1 [[.int .u8 120]],.osl q U 65 46 [(kc36 D E)],.osl D E 5 1 [[.int .u8 120]]]) (mem' := fun ⟨b,e,c,f,d,j,J,K,s,n,u,o,z,l,m,L,M,N,O,P,Q,R,T,q,U,D,E⟩ => [(2,.cells x5 80 (kc29 x6 x7 b e c f d j J K s)),(3,.osl x6 x7 3 1 [[vI 1]]),(4,.osl x8 x9 31 7 []),(5,.osl B G 94 5 []),(6,.osl C H 91 4 []),(7,.osl (some (Addr.mk (a 3).x 0 none)) 1 5 1 [[.int .u8 120]]),(9,.osl b e 31 7 [(kc19)]),(10,.osl c f 94 5 [(kc24)]),(11,.osl d j 91 4 [(kc26 I.1)]),(12,.cells s 104 (kc22 n u o z l m)),(13,.osl n u 5 1 [[.int .u8 120]]),(14,.osl o z 5 1 [[.int .u8 120]]),(15,.osl l m 3 1 [[vI 1]]),(16,.osl L M 31 7 [(kc19)]),(17,.osl N O 94 5 [(kc24)]),(18,.osl P Q 91 4 [(kc26 I.2)]),(19,.osl R T 5 1 [[.int .u8 120]]),(20,.osl q U 65 46 [(kc36 D E)]),(21,.osl D E 5 1 [[.int .u8 120]])]) (env' := fun ⟨b,e,c,f,d,j,J,K,s,n,u,o,z,l,m,L,M,N,O,P,Q,R,T,q,U,D,E⟩ => [(1,pA x5 0),(28,.agg ((kc37 L M N O P Q R T q U)).toArray)]) [2] [2,9,10,11,12,13,14,15,16,17,18,19,20,21] [1,28] [2,3,4,5,6,7,9,10,11,12,13,14,15,16,17,18,19,20,21] false (by kernel_rfl) (by kernel_rfl) (by kernel_rfl) (by kernel_rfl) (by kernel_rfl) (fun _ => rfl) (fun _ _ => rfl) ⟨(.inl ⟨3,_,rfl,rfl,Cov.osl_rd,fun h => by cases h⟩),(.inl ⟨4,_,rfl,rfl,Cov.osl_rd,fun h => by cases h⟩),(.inl ⟨5,_,rfl,rfl,Cov.osl_rd,fun h => by cases h⟩),(.inl ⟨6,_,rfl,rfl,Cov.osl_rd,fun h => by cases h⟩),(.inl ⟨7,_,rfl,rfl,Cov.osl_rd,fun h => by cases h⟩),trivial⟩ (by rintro ⟨b,e,c,f,d,j,J,K,s,n,u,o,z,l,m,L,M,N,O,P,Q,R,T,q,U,D,E⟩; kernel_rfl) (by rintro ⟨b,e,c,f,d,j,J,K,s,n,u,o,z,l,m,L,M,N,O,P,Q,R,T,q,U,D,E⟩; kernel_rfl) ((by have h1 := w___primary_Machine__Step F x5 x6 x7 x8 x9 B G C H (some (Addr.mk (a 3).x 0 none)) 1 aa; exact h1)) ?_
  rintro ⟨b,e,c,f,d,j,J,K,s,n,u,o,z,l,m,L,M,N,O,P,Q,R,T,q,U,D,E⟩
  refine GR.ru (i := 3) 2 (env' := fun k => [(1,pA x5 0),(4,pA ((k 3).x) 0)]) (mem' := fun k => [(2,.cells x5 80 (kc29 x6 x7 b e c f d j J K s)),(3,.osl x6 x7 3 1 [[vI 1]]),(9,.osl b e 31 7 [(kc19)]),(10,.osl c f 94 5 [(kc24)]),(11,.osl d j 91 4 [(kc26 I.1)]),(12,.cells s 104 (kc22 n u o z l m)),(13,.osl n u 5 1 [[.int .u8 120]]),(14,.osl o z 5 1 [[.int .u8 120]]),(15,.osl l m 3 1 [[vI 1]]),(16,.osl L M 31 7 [(kc19)]),(17,.osl N O 94 5 [(kc24)]),(18,.osl P Q 91 4 [(kc26 I.2)]),(19,.osl R T 5 1 [[.int .u8 120]]),(20,.osl q U 65 46 [(kc36 D E)]),(21,.osl D E 5 1 [[.int .u8 120]]),(22,.cells ((k 3).x) 68 (kc37 L M N O P Q R T q U))]) (by kernel_rfl) (RunsTo.mk [(3,{ act := .new .var,key := some 22 }),(4,{ act := .store 0 0 [],key := some 22 })] [1,4] [2,3,9,10,11,12,13,14,15,16,17,18,19,20,21,22] (fun k => [(k 3).x = (k 3).x,oC (.agg ((kc37 L M N O P Q R T q U)).toArray)]) (fun k => by kernel_rfl) (fun k => ⟨rfl,rfl,trivial⟩)) ?_
  intro k
  refine GR.dn (by kernel_rfl) ?_
  refine GS.seq ?_
  refine GS.seq ?_
  refine bnd_elim hm (fun af ab hm => ?_)
  refine GS.tgM (fun _ => [(1,pA x5 0),(4,pA ((k 3).x) 0),(54,.bool false)]) [(1,{ act := .load 22 0 0 [] }),(5,{ act := .load 22 0 0 [] }),(10,{ act := .load 22 0 0 [] }),(16,{ act := .load 22 0 0 [] }),(17,{ act := .idx 20 0 }),(19,{ act := .load 20 0 0 [vI 32,vI 2,vI 0,vI 2,vI 1,vI 9,vI 3,vI 1,vI 0,vI 0,vI 0,vI 0,.slice none 0 0,.slice none 0 0,.slice none 0 0,vI 0,vI 0,vI 0,vI 0,vI 0,vI 0,vI 0,vI 0,vI 0,.slice none 0 0,.slice none 0 0,.slice none 0 0,vI 3,vI 1,.bool false,vI 0,.string (ByteArray.mk #[97]),vI 5,vI 1,.string (ByteArray.mk #[97]),vI 3,vI 1,.slice D 1 E,vI 0,.string (ByteArray.mk #[]),.slice none 0 0,vI 0,vI 0,.slice none 0 0,.slice none 0 0,vI 0] }),(24,{ act := .call [2,3,9,10,11,12,13,14,15] (.bool false) })] (fun _ => [(k 3).x = (k 3).x,(k 3).x = (k 3).x,(k 3).x = (k 3).x,(k 3).x = (k 3).x,q = q,1 = ([(kc36 D E)] : List (List Value)).length,(0 : Int) = (0 : Int),0 < 1,blk q = blk q,offs q + 0 * 46 = offs q + (0 * 46 + 0),([(kc36 D E)] : List (List Value))[0]? = some [vI 32,vI 2,vI 0,vI 2,vI 1,vI 9,vI 3,vI 1,vI 0,vI 0,vI 0,vI 0,.slice none 0 0,.slice none 0 0,.slice none 0 0,vI 0,vI 0,vI 0,vI 0,vI 0,vI 0,vI 0,vI 0,vI 0,.slice none 0 0,.slice none 0 0,.slice none 0 0,vI 3,vI 1,.bool false,vI 0,.string (ByteArray.mk #[97]),vI 5,vI 1,.string (ByteArray.mk #[97]),vI 3,vI 1,.slice D 1 E,vI 0,.string (ByteArray.mk #[]),.slice none 0 0,vI 0,vI 0,.slice none 0 0,.slice none 0 0,vI 0],CallOK Tryz.prog 20 #[pA x5 0] (.bool false) [some (.cells x5 80 (kc29 x6 x7 b e c f d j J K s)),some (.osl x6 x7 3 1 [[vI 1]]),some (.osl b e 31 7 [(kc19)]),some (.osl c f 94 5 [(kc24)]),some (.osl d j 91 4 [(kc26 I.1)]),some (.cells s 104 (kc22 n u o z l m)),some (.osl n u 5 1 [[.int .u8 120]]),some (.osl o z 5 1 [[.int .u8 120]]),some (.osl l m 3 1 [[vI 1]])]]) (fun _ => ⟨rfl,rfl,rfl,rfl,rfl,rfl,rfl,(Nat.le_of_ble_eq_true rfl),rfl,rfl,rfl,(by have h1 := w___primary_Machine__Idle F x5 x6 x7 b e c f d j I.1 J K s n u o z l m ab; exact h1.ok ⟨(.inl ⟨.osl x6 x7 3 1 [[vI 1]],(.tail _ (.head _)),Cov.osl_rd⟩),(.inl ⟨.osl b e 31 7 [(kc19)],(.tail _ (.tail _ (.head _))),Cov.osl_rd⟩),(.inl ⟨.osl c f 94 5 [(kc24)],(.tail _ (.tail _ (.tail _ (.head _)))),Cov.osl_rd⟩),(.inl ⟨.osl d j 91 4 [(kc26 I.1)],(.tail _ (.tail _ (.tail _ (.tail _ (.head _))))),Cov.osl_rd⟩),(.inl ⟨.osl n u 5 1 [[.int .u8 120]],(.tail _ (.tail _ (.tail _ (.tail _ (.tail _ (.tail _ (.head _))))))),Cov.osl_rd⟩),(.inl ⟨.osl o z 5 1 [[.int .u8 120]],(.tail _ (.tail _ (.tail _ (.tail _ (.tail _ (.tail _ (.tail _ (.head _)))))))),Cov.osl_rd⟩),(.inl ⟨.osl l m 3 1 [[vI 1]],(.tail _ (.tail _ (.tail _ (.tail _ (.tail _ (.tail _ (.tail _ (.tail _ (.head _))))))))),Cov.osl_rd⟩),(.inl ⟨.cells s 104 (kc22 n u o z l m),(.tail _ (.tail _ (.tail _ (.tail _ (.tail _ (.head _)))))),Cov.cells_rd⟩),(.inl ⟨.cells x5 80 (kc29 x6 x7 b e c f d j J K s),.head _,Cov.cells_rd⟩),trivial⟩),trivial⟩) ?_
  intro _
  refine GS.cond (t := false) rfl rfl (fun hf => by cases hf) (fun _ => ?_)
  refine GS.skip ?_
  refine GS.seq ?_
  refine GS.know (p := l.isNone = false) (fun w hw => ne_osl (hw.ok 15 _ rfl)) (fun ag => ?_)
  refine GS.know (p := 1 ≤ m) (fun w hw => (hw.ok 15 _ rfl).1.1) (fun ac => ?_)
  refine bnd_elim hm (fun ah ad hm => ?_)
  refine GS.open_ ?_
  refine GR.ru (i := 0) 10 (env' := fun _ => [(1,pA x5 0),(55,pA x5 0),(64,.agg ((kc38)).toArray)]) (mem' := fun _ => [(2,.cells x5 80 (kc29 x6 x7 b e c f d j J K s)),(3,.osl x6 x7 3 1 [[vI 1]]),(9,.osl b e 31 7 [(kc19)]),(10,.osl c f 94 5 [(kc24)]),(11,.osl d j 91 4 [(kc26 I.1)]),(12,.cells s 104 (kc22 n u o z l m)),(13,.osl n u 5 1 [[.int .u8 120]]),(14,.osl o z 5 1 [[.int .u8 120]]),(15,.osl l m 3 1 [[vI 1]])]) (by kernel_rfl) (RunsTo.mk [(5,{ act := .load 22 0 0 [] }),(6,{ act := .idx 20 0 }),(8,{ act := .load 20 0 27 [vI 32,vI 2,vI 0,vI 2,vI 1,vI 9,vI 3,vI 1,vI 0,vI 0,vI 0,vI 0,.slice none 0 0,.slice none 0 0,.slice none 0 0,vI 0,vI 0,vI 0,vI 0,vI 0,vI 0,vI 0,vI 0,vI 0,.slice none 0 0,.slice none 0 0,.slice none 0 0,vI 3,vI 1,.bool false,vI 0,.string (ByteArray.mk #[97]),vI 5,vI 1,.string (ByteArray.mk #[97]),vI 3,vI 1,.slice D 1 E,vI 0,.string (ByteArray.mk #[]),.slice none 0 0,vI 0,vI 0,.slice none 0 0,.slice none 0 0,vI 0] })] [1,55,64] [2,3,9,10,11,12,13,14,15] (fun _ => [(k 3).x = (k 3).x,q = q,1 = ([(kc36 D E)] : List (List Value)).length,(0 : Int) = (0 : Int),0 < 1,blk q = blk q,offs q + 0 * 46 + 27 = offs q + (0 * 46 + 27),([(kc36 D E)] : List (List Value))[0]? = some [vI 32,vI 2,vI 0,vI 2,vI 1,vI 9,vI 3,vI 1,vI 0,vI 0,vI 0,vI 0,.slice none 0 0,.slice none 0 0,.slice none 0 0,vI 0,vI 0,vI 0,vI 0,vI 0,vI 0,vI 0,vI 0,vI 0,.slice none 0 0,.slice none 0 0,.slice none 0 0,vI 3,vI 1,.bool false,vI 0,.string (ByteArray.mk #[97]),vI 5,vI 1,.string (ByteArray.mk #[97]),vI 3,vI 1,.slice D 1 E,vI 0,.string (ByteArray.mk #[]),.slice none 0 0,vI 0,vI 0,.slice none 0 0,.slice none 0 0,vI 0]]) (fun _ => by kernel_rfl) (fun _ => ⟨rfl,rfl,rfl,rfl,(Nat.le_of_ble_eq_true rfl),rfl,(Nat.add_assoc ..),rfl,trivial⟩)) ?_
  intro _
  refine GR.callG (X := Option Addr × Nat × Option Addr × Nat) (i := 10) (g := 16) (args := #[pA x5 0,.agg ((kc38)).toArray]) (v := fun ⟨W,Y,r,V⟩ => .agg ((kc46 r V)).toArray) (own := [.osl l m 3 1 [[vI 1]],.cells s 104 (kc22 n u o z l m),.cells x5 80 (kc29 x6 x7 b e c f d j J K s)]) (ro := [.rd x6 1 [[vI 1]],.rd b 7 [(kc19)],.rd c 5 [(kc24)],.rd d 4 [(kc26 I.1)],.rd n 1 [[.int .u8 120]],.rd o 1 [[.int .u8 120]]]) (es' := fun ⟨W,Y,r,V⟩ => [.osl l m 3 1 [],.cells s 104 (kc39 n u o z l m),.cells x5 80 (kc28 x6 x7 b e c f d j W Y),.osl r V 65 46 [(kc45)]]) (mem' := fun ⟨W,Y,r,V⟩ => [(2,.cells x5 80 (kc28 x6 x7 b e c f d j W Y)),(3,.osl x6 x7 3 1 [[vI 1]]),(9,.osl b e 31 7 [(kc19)]),(10,.osl c f 94 5 [(kc24)]),(11,.osl d j 91 4 [(kc26 I.1)]),(12,.cells s 104 (kc39 n u o z l m)),(13,.osl n u 5 1 [[.int .u8 120]]),(14,.osl o z 5 1 [[.int .u8 120]]),(15,.osl l m 3 1 []),(23,.osl r V 65 46 [(kc45)])]) (env' := fun ⟨W,Y,r,V⟩ => [(1,pA x5 0),(65,.agg ((kc46 r V)).toArray)]) [15,12,2] [15,12,2,23] [1,65] [2,3,9,10,11,12,13,14,15,23] false (by kernel_rfl) (by kernel_rfl) (by kernel_rfl) (by kernel_rfl) (by kernel_rfl) (fun _ => rfl) (fun _ _ => rfl) ⟨(.inl ⟨3,_,rfl,rfl,Cov.osl_rd,fun h => by cases h⟩),(.inl ⟨9,_,rfl,rfl,Cov.osl_rd,fun h => by cases h⟩),(.inl ⟨10,_,rfl,rfl,Cov.osl_rd,fun h => by cases h⟩),(.inl ⟨11,_,rfl,rfl,Cov.osl_rd,fun h => by cases h⟩),(.inl ⟨13,_,rfl,rfl,Cov.osl_rd,fun h => by cases h⟩),(.inl ⟨14,_,rfl,rfl,Cov.osl_rd,fun h => by cases h⟩),trivial⟩ (by rintro ⟨W,Y,r,V⟩; kernel_rfl) (by rintro ⟨W,Y,r,V⟩; kernel_rfl) ((by have h1 := w___primary_Machine__Step_2 F x5 x6 x7 b e c f d j I.1 J K s n u o z l m ac ad; exact h1)) ?_
  rintro ⟨W,Y,r,V⟩
  refine GR.ru (i := 11) 2 (env' := fun A => [(1,pA x5 0),(5,pA ((A 11).x) 0)]) (mem' := fun A => [(2,.cells x5 80 (kc28 x6 x7 b e c f d j W Y)),(3,.osl x6 x7 3 1 [[vI 1]]),(9,.osl b e 31 7 [(kc19)]),(10,.osl c f 94 5 [(kc24)]),(11,.osl d j 91 4 [(kc26 I.1)]),(23,.osl r V 65 46 [(kc45)]),(24,.cells ((A 11).x) 68 (kc46 r V))]) (by kernel_rfl) (RunsTo.mk [(11,{ act := .new .var,key := some 24 }),(12,{ act := .store 0 0 [],key := some 24 })] [1,5] [2,3,9,10,11,23,24] (fun A => [(A 11).x = (A 11).x,oC (.agg ((kc46 r V)).toArray)]) (fun A => by kernel_rfl) (fun A => ⟨rfl,rfl,trivial⟩)) ?_
  intro A
  refine GR.dn (by kernel_rfl) ?_
  refine GS.seq ?_
  refine bnd_elim hm (fun ai ae hm => ?_)
  refine GS.tg (fun _ => [(0,.bool true)]) (fun _ => []) [(1,{ act := .load 24 0 0 [] }),(6,{ act := .load 24 0 0 [] }),(7,{ act := .idx 23 0 }),(9,{ act := .load 23 0 0 [vI 31,vI 2,vI 0,vI 3,vI 0,vI 9,vI 3,vI 1,vI 0,vI 5,vI 1,vI 0,.slice none 0 0,.slice none 0 0,.slice none 0 0,vI 0,vI 0,vI 0,vI 0,vI 0,vI 0,vI 0,vI 0,vI 0,.slice none 0 0,.slice none 0 0,.slice none 0 0,vI 0,vI 0,.bool false,vI 0,.string (ByteArray.mk #[]),vI 0,vI 0,.string (ByteArray.mk #[97]),vI 3,vI 1,.slice none 0 0,vI 0,.string (ByteArray.mk #[]),.slice none 0 0,vI 0,vI 0,.slice none 0 0,.slice none 0 0,vI 0] }),(14,{ act := .load 24 0 0 [] }),(15,{ act := .idx 23 0 }),(17,{ act := .load 23 0 45 [vI 31,vI 2,vI 0,vI 3,vI 0,vI 9,vI 3,vI 1,vI 0,vI 5,vI 1,vI 0,.slice none 0 0,.slice none 0 0,.slice none 0 0,vI 0,vI 0,vI 0,vI 0,vI 0,vI 0,vI 0,vI 0,vI 0,.slice none 0 0,.slice none 0 0,.slice none 0 0,vI 0,vI 0,.bool false,vI 0,.string (ByteArray.mk #[]),vI 0,vI 0,.string (ByteArray.mk #[97]),vI 3,vI 1,.slice none 0 0,vI 0,.string (ByteArray.mk #[]),.slice none 0 0,vI 0,vI 0,.slice none 0 0,.slice none 0 0,vI 0] }),(22,{ act := .call [2,3,9,10,11] (.bool true) })] (fun _ => [(A 11).x = (A 11).x,(A 11).x = (A 11).x,r = r,1 = ([(kc45)] : List (List Value)).length,(0 : Int) = (0 : Int),0 < 1,blk r = blk r,offs r + 0 * 46 = offs r + (0 * 46 + 0),([(kc45)] : List (List Value))[0]? = some [vI 31,vI 2,vI 0,vI 3,vI 0,vI 9,vI 3,vI 1,vI 0,vI 5,vI 1,vI 0,.slice none 0 0,.slice none 0 0,.slice none 0 0,vI 0,vI 0,vI 0,vI 0,vI 0,vI 0,vI 0,vI 0,vI 0,.slice none 0 0,.slice none 0 0,.slice none 0 0,vI 0,vI 0,.bool false,vI 0,.string (ByteArray.mk #[]),vI 0,vI 0,.string (ByteArray.mk #[97]),vI 3,vI 1,.slice none 0 0,vI 0,.string (ByteArray.mk #[]),.slice none 0 0,vI 0,vI 0,.slice none 0 0,.slice none 0 0,vI 0],(A 11).x = (A 11).x,r = r,1 = ([(kc45)] : List (List Value)).length,(0 : Int) = (0 : Int),0 < 1,blk r = blk r,offs r + 0 * 46 + 45 = offs r + (0 * 46 + 45),([(kc45)] : List (List Value))[0]? = some [vI 31,vI 2,vI 0,vI 3,vI 0,vI 9,vI 3,vI 1,vI 0,vI 5,vI 1,vI 0,.slice none 0 0,.slice none 0 0,.slice none 0 0,vI 0,vI 0,vI 0,vI 0,vI 0,vI 0,vI 0,vI 0,vI 0,.slice none 0 0,.slice none 0 0,.slice none 0 0,vI 0,vI 0,.bool false,vI 0,.string (ByteArray.mk #[]),vI 0,vI 0,.string (ByteArray.mk #[97]),vI 3,vI 1,.slice none 0 0,vI 0,.string (ByteArray.mk #[]),.slice none 0 0,vI 0,vI 0,.slice none 0 0,.slice none 0 0,vI 0],CallOK Tryz.prog 20 #[pA x5 0] (.bool true) [some (.cells x5 80 (kc28 x6 x7 b e c f d j W Y)),some (.osl x6 x7 3 1 [[vI 1]]),some (.osl b e 31 7 [(kc19)]),some (.osl c f 94 5 [(kc24)]),some (.osl d j 91 4 [(kc26 I.1)])]]) (fun _ => ⟨rfl,rfl,rfl,rfl,rfl,(Nat.le_of_ble_eq_true rfl),rfl,rfl,rfl,rfl,rfl,rfl,rfl,(Nat.le_of_ble_eq_true rfl),rfl,(Nat.add_assoc ..),rfl,(by have h1 := w___primary_Machine__Idle_2 F x5 x6 x7 b e c f d j I.1 W Y ae; exact h1.ok ⟨(.inl ⟨.osl x6 x7 3 1 [[vI 1]],(.tail _ (.head _)),Cov.osl_rd⟩),(.inl ⟨.osl b e 31 7 [(kc19)],(.tail _ (.tail _ (.head _))),Cov.osl_rd⟩),(.inl ⟨.osl c f 94 5 [(kc24)],(.tail _ (.tail _ (.tail _ (.head _)))),Cov.osl_rd⟩),(.inl ⟨.osl d j 91 4 [(kc26 I.1)],(.tail _ (.tail _ (.tail _ (.tail _ (.head _))))),Cov.osl_rd⟩),(.inl ⟨.cells x5 80 (kc28 x6 x7 b e c f d j W Y),.head _,Cov.cells_rd⟩),trivial⟩),trivial⟩) ?_
  intro _
  have hy := Option.some.inj hm
  subst hy
  refine GS.ret (fn := Tryz.f7) [0] [.bool true] [] rfl Tryz.func7 (by kernel_rfl) trivial (fun w' hs => ?_)
  exact ⟨(),rfl,hs.turnedG (ks := []) rfl rfl⟩

theorem w_pglog_Head_2 (F : Nat) (l : Int) (c : S_api_Version) (b : Option Addr) (k : Nat) (a : List S_api_Entry) (d : Option Addr) (i : Nat) (f : List S_api_Last) (e : Option Addr) (j : Nat) (g : List S_api_Item) {y : S_api_Version} (hm : m_pglog_Head_2 F l c a f g = some y) : CallG Tryz.prog 30 #[.agg ((kc0 l c.Epoch c.N b a.length k d f.length i e g.length j)).toArray] (X := Unit) (fun (_ : Unit) => .agg #[vI y.Epoch,vI y.N]) [] [r31 b a,r94 d f,r91 e g] (fun (_ : Unit) => []) := by
  intro w hg
  rw [m_pglog_Head_2] at hm
  refine GS.start (S := mayT [] [r31 b a,r94 d f,r91 e g]) (mem := [(1,r31 b a),(2,r94 d f),(3,r91 e g)]) Tryz.func30 rfl Tryz.ntmps30 (Nat.le_of_ble_eq_true rfl) (hg.start rfl) ?_
  refine GS.conv (env' := [(0,.agg ((kc0 l c.Epoch c.N b a.length k d f.length i e g.length j)).toArray)]) rfl rfl ?_
  refine GS.seq ?_
  refine GS.tz (fun h => [(1,pA ((h 0).x) 0),(2,pA ((h 1).x) 0)]) (fun h => [(1,r31 b a),(2,r94 d f),(3,r91 e g),(4,.cells ((h 0).x) 28 (kc0 l c.Epoch c.N b a.length k d f.length i e g.length j)),(5,.cells ((h 1).x) 23 [vI 0,vI 0])]) [(0,{ act := .new .var,key := some 4 }),(1,{ act := .new .var,key := some 5 })] ?_
  intro h
  refine GS.seq ?_
  refine GS.seq ?_
  refine GS.tgM (fun _ => [(1,pA ((h 0).x) 0),(2,pA ((h 1).x) 0),(3,vI (a.length : Int))]) [(1,{ act := .load 4 0 0 [] })] (fun _ => [(h 0).x = (h 0).x]) (fun _ => ⟨rfl,trivial⟩) ?_
  intro _
  refine GS.seq ?_
  refine GS.tzM (fun _ => [(1,pA ((h 0).x) 0),(2,pA ((h 1).x) 0),(3,vI (a.length : Int)),(8,.bool (decide ((a.length : Int) > 0)))]) [] ?_
  intro _
  refine GS.cond (t := decide ((a.length : Int) > 0)) rfl rfl (fun h4 => ?_) (fun h4 => ?_)
  · replace hm := br_t h4 hm
    refine GS.seq ?_
    refine grd_elim hm (fun g6 hm => ?_)
    refine grd_elim hm (fun g7 hm => ?_)
    refine GS.tg (fun _ => [(2,pA ((h 1).x) 0)]) (fun _ => [(5,.cells ((h 1).x) 23 [vI (((a.getD (Int.toNat ((a.length : Int) - 1)) dS_api_Entry).Version).Epoch),vI (((a.getD (Int.toNat ((a.length : Int) - 1)) dS_api_Entry).Version).N)])]) [(1,{ act := .load 4 0 0 [] }),(3,{ sp := some (vI ((a.length : Int) - 1)) }),(4,{ act := .idx 1 (Int.toNat ((a.length : Int) - 1)) }),(6,{ act := .load 1 (Int.toNat ((a.length : Int) - 1)) 0 [vI (((a.getD (Int.toNat ((a.length : Int) - 1)) dS_api_Entry).Version).Epoch),vI (((a.getD (Int.toNat ((a.length : Int) - 1)) dS_api_Entry).Version).N),.bool ((a.getD (Int.toNat ((a.length : Int) - 1)) dS_api_Entry).Remove),vI ((a.getD (Int.toNat ((a.length : Int) - 1)) dS_api_Entry).Errno),.string ((a.getD (Int.toNat ((a.length : Int) - 1)) dS_api_Entry).Name),vI ((a.getD (Int.toNat ((a.length : Int) - 1)) dS_api_Entry).Client),vI ((a.getD (Int.toNat ((a.length : Int) - 1)) dS_api_Entry).Number)] }),(7,{ act := .store 0 0 [],key := some 5 })] (fun _ => [(h 0).x = (h 0).x,oW ((a.length : Int) - 1),b = b,a.length = (List.map S_api_Entry.row a).length,(((a.length : Int) - 1) : Int) = (((Int.toNat ((a.length : Int) - 1)) : Nat) : Int),(Int.toNat ((a.length : Int) - 1)) < a.length,blk b = blk b,offs b + (Int.toNat ((a.length : Int) - 1)) * 7 = offs b + ((Int.toNat ((a.length : Int) - 1)) * 7 + 0),(List.map S_api_Entry.row a)[(Int.toNat ((a.length : Int) - 1))]? = some [vI (((a.getD (Int.toNat ((a.length : Int) - 1)) dS_api_Entry).Version).Epoch),vI (((a.getD (Int.toNat ((a.length : Int) - 1)) dS_api_Entry).Version).N),.bool ((a.getD (Int.toNat ((a.length : Int) - 1)) dS_api_Entry).Remove),vI ((a.getD (Int.toNat ((a.length : Int) - 1)) dS_api_Entry).Errno),.string ((a.getD (Int.toNat ((a.length : Int) - 1)) dS_api_Entry).Name),vI ((a.getD (Int.toNat ((a.length : Int) - 1)) dS_api_Entry).Client),vI ((a.getD (Int.toNat ((a.length : Int) - 1)) dS_api_Entry).Number)],(h 1).x = (h 1).x,oC (.agg #[vI (((a.getD (Int.toNat ((a.length : Int) - 1)) dS_api_Entry).Version).Epoch),vI (((a.getD (Int.toNat ((a.length : Int) - 1)) dS_api_Entry).Version).N)])]) (fun _ => ⟨rfl,I64.w g6,rfl,mlen S_api_Entry.row a,g7.eq,g7.2,rfl,rfl,map_at S_api_Entry.row dS_api_Entry g7.2,rfl,rfl,trivial⟩) ?_
    intro _
    have hy := Option.some.inj hm
    subst hy
    refine GS.ret (fn := Tryz.f30) [5] [.agg #[vI (((a.getD (Int.toNat ((a.length : Int) - 1)) dS_api_Entry).Version).Epoch),vI (((a.getD (Int.toNat ((a.length : Int) - 1)) dS_api_Entry).Version).N)]] [(h 1).x = (h 1).x] rfl Tryz.func30 (by kernel_rfl) ⟨rfl,trivial⟩ (fun w' hs => ?_)
    exact ⟨(),rfl,hs.turnedG (ks := []) rfl rfl⟩
  · replace hm := br_f h4 hm
    refine GS.skip ?_
    refine GS.seq ?_
    refine GS.tg (fun _ => [(2,pA ((h 1).x) 0)]) (fun _ => [(5,.cells ((h 1).x) 23 [vI c.Epoch,vI c.N])]) [(1,{ act := .load 4 0 0 [] }),(2,{ act := .store 0 0 [],key := some 5 })] (fun _ => [(h 0).x = (h 0).x,(h 1).x = (h 1).x,oC (.agg #[vI c.Epoch,vI c.N])]) (fun _ => ⟨rfl,rfl,rfl,trivial⟩) ?_
    intro _
    have hy := Option.some.inj hm
    subst hy
    refine GS.ret (fn := Tryz.f30) [5] [.agg #[vI c.Epoch,vI c.N]] [(h 1).x = (h 1).x] rfl Tryz.func30 (by kernel_rfl) ⟨rfl,trivial⟩ (fun w' hs => ?_)
    exact ⟨(),rfl,hs.turnedG (ks := []) rfl rfl⟩

theorem w_cmp_isNaN_int__3 (F : Nat) (a0 : Int) {y : Bool} (hm : m_cmp_isNaN_int__3 F a0 = some y) : CallG Tryz.prog 75 #[vI a0] (X := Unit) (fun (_ : Unit) => .bool y) [] [] (fun (_ : Unit) => []) := by
  intro w hg
  rw [m_cmp_isNaN_int__3] at hm
  refine GS.start (S := mayT [] []) (mem := []) Tryz.func75 rfl Tryz.ntmps75 (Nat.le_of_ble_eq_true rfl) (hg.start rfl) ?_
  refine GS.conv (env' := [(0,vI a0)]) rfl rfl ?_
  refine GS.seq ?_
  refine GS.tzM (fun _ => [(0,vI a0)]) [] ?_
  intro _
  refine GS.seq ?_
  refine GS.tzM (fun _ => [(2,.bool (a0 != a0))]) [] ?_
  intro _
  have hy := Option.some.inj hm
  subst hy
  refine GS.ret (fn := Tryz.f75) [0] [.bool (a0 != a0)] [] rfl Tryz.func75 (by kernel_rfl) trivial (fun w' hs => ?_)
  exact ⟨(),rfl,hs.turnedG (ks := []) rfl rfl⟩

theorem w_cmp_Compare_int__2 (F : Nat) (a0 : Int) (a1 : Int) {y : Int} (hm : m_cmp_Compare_int__2 F a0 a1 = some y) : CallG Tryz.prog 51 #[vI a0,vI a1] (X := Unit) (fun (_ : Unit) => vI y) [] [] (fun (_ : Unit) => []) := by
  intro w hg
  rw [m_cmp_Compare_int__2] at hm
  refine GS.start (S := mayT [] []) (mem := []) Tryz.func51 rfl Tryz.ntmps51 (Nat.le_of_ble_eq_true rfl) (hg.start rfl) ?_
  refine GS.conv (env' := [(0,vI a0),(1,vI a1)]) rfl rfl ?_
  refine GS.seq ?_
  refine GS.tzM (fun _ => [(0,vI a0),(1,vI a1)]) [] ?_
  intro _
  refine GS.seq ?_
  refine bnd_elim hm (fun y3 e4 hm => ?_)
  refine GS.tgM (fun _ => [(0,vI a0),(1,vI a1),(5,.bool y3)]) [(1,{ act := .call [] (.bool y3) })] (fun _ => [CallOK Tryz.prog 75 #[vI a0] (.bool y3) []]) (fun _ => ⟨(by have h1 := w_cmp_isNaN_int__3 F a0 e4; exact h1.ok trivial),trivial⟩) ?_
  intro _
  refine GS.seq ?_
  refine bnd_elim hm (fun y6 e7 hm => ?_)
  refine GS.tgM (fun _ => [(0,vI a0),(1,vI a1),(5,.bool y3),(6,.bool y6)]) [(1,{ act := .call [] (.bool y6) })] (fun _ => [CallOK Tryz.prog 75 #[vI a1] (.bool y6) []]) (fun _ => ⟨(by have h1 := w_cmp_isNaN_int__3 F a1 e7; exact h1.ok trivial),trivial⟩) ?_
  intro _
  refine GS.seq ?_
  refine GS.seq ?_
  refine GS.tzM (fun _ => [(0,vI a0),(1,vI a1),(6,.bool y6),(11,.bool y3)]) [] ?_
  intro _
  refine GS.cond (t := y3) rfl rfl (fun h9 => ?_) (fun h9 => ?_)
  · replace hm := br_t h9 hm
    refine GS.seq ?_
    refine GS.seq ?_
    refine GS.tzM (fun _ => [(12,.bool y6)]) [] ?_
    intro _
    refine GS.cond (t := y6) rfl rfl (fun a => ?_) (fun a => ?_)
    · replace hm := br_t a hm
      refine GS.seq ?_
      refine GS.tzM (fun _ => [(4,vI 0)]) [] ?_
      intro _
      have hy := Option.some.inj hm
      subst hy
      refine GS.ret (fn := Tryz.f51) [0] [vI 0] [] rfl Tryz.func51 (by kernel_rfl) trivial (fun w' hs => ?_)
      exact ⟨(),rfl,hs.turnedG (ks := []) rfl rfl⟩
    · replace hm := br_f a hm
      refine GS.skip ?_
      refine GS.seq ?_
      refine GS.tzM (fun _ => [(4,vI (-1))]) [] ?_
      intro _
      have hy := Option.some.inj hm
      subst hy
      refine GS.ret (fn := Tryz.f51) [0] [vI (-1)] [] rfl Tryz.func51 (by kernel_rfl) trivial (fun w' hs => ?_)
      exact ⟨(),rfl,hs.turnedG (ks := []) rfl rfl⟩
  · replace hm := br_f h9 hm
    refine GS.skip ?_
    refine GS.seq ?_
    refine GS.seq ?_
    refine GS.tzM (fun _ => [(0,vI a0),(1,vI a1),(13,.bool y6)]) [] ?_
    intro _
    refine GS.cond (t := y6) rfl rfl (fun b => ?_) (fun b => ?_)
    · replace hm := br_t b hm
      refine GS.seq ?_
      refine GS.tzM (fun _ => [(4,vI 1)]) [] ?_
      intro _
      have hy := Option.some.inj hm
      subst hy
      refine GS.ret (fn := Tryz.f51) [0] [vI 1] [] rfl Tryz.func51 (by kernel_rfl) trivial (fun w' hs => ?_)
      exact ⟨(),rfl,hs.turnedG (ks := []) rfl rfl⟩
    · replace hm := br_f b hm
      refine GS.skip ?_
      refine GS.seq ?_
      refine GS.seq ?_
      refine GS.tzM (fun _ => [(0,vI a0),(1,vI a1),(16,.bool (decide (a0 < a1)))]) [] ?_
      intro _
      refine GS.cond (t := decide (a0 < a1)) rfl rfl (fun c => ?_) (fun c => ?_)
      · replace hm := br_t c hm
        refine GS.seq ?_
        refine GS.tzM (fun _ => [(4,vI (-1))]) [] ?_
        intro _
        have hy := Option.some.inj hm
        subst hy
        refine GS.ret (fn := Tryz.f51) [0] [vI (-1)] [] rfl Tryz.func51 (by kernel_rfl) trivial (fun w' hs => ?_)
        exact ⟨(),rfl,hs.turnedG (ks := []) rfl rfl⟩
      · replace hm := br_f c hm
        refine GS.skip ?_
        refine GS.seq ?_
        refine GS.seq ?_
        refine GS.tzM (fun _ => [(19,.bool (decide (a0 > a1)))]) [] ?_
        intro _
        refine GS.cond (t := decide (a0 > a1)) rfl rfl (fun d => ?_) (fun d => ?_)
        · replace hm := br_t d hm
          refine GS.seq ?_
          refine GS.tzM (fun _ => [(4,vI 1)]) [] ?_
          intro _
          have hy := Option.some.inj hm
          subst hy
          refine GS.ret (fn := Tryz.f51) [0] [vI 1] [] rfl Tryz.func51 (by kernel_rfl) trivial (fun w' hs => ?_)
          exact ⟨(),rfl,hs.turnedG (ks := []) rfl rfl⟩
        · replace hm := br_f d hm
          refine GS.skip ?_
          refine GS.seq ?_
          refine GS.tzM (fun _ => [(4,vI 0)]) [] ?_
          intro _
          have hy := Option.some.inj hm
          subst hy
          refine GS.ret (fn := Tryz.f51) [0] [vI 0] [] rfl Tryz.func51 (by kernel_rfl) trivial (fun w' hs => ?_)
          exact ⟨(),rfl,hs.turnedG (ks := []) rfl rfl⟩

theorem w_pglog_Cmp_2 (F : Nat) (a0 : S_api_Version) (a1 : S_api_Version) {y : Int} (hm : m_pglog_Cmp_2 F a0 a1 = some y) : CallG Tryz.prog 31 #[.agg #[vI a0.Epoch,vI a0.N],.agg #[vI a1.Epoch,vI a1.N]] (X := Unit) (fun (_ : Unit) => vI y) [] [] (fun (_ : Unit) => []) := by
  intro w hg
  rw [m_pglog_Cmp_2] at hm
  refine GS.start (S := mayT [] []) (mem := []) Tryz.func31 rfl Tryz.ntmps31 (Nat.le_of_ble_eq_true rfl) (hg.start rfl) ?_
  refine GS.conv (env' := [(0,.agg #[vI a0.Epoch,vI a0.N]),(1,.agg #[vI a1.Epoch,vI a1.N])]) rfl rfl ?_
  refine GS.seq ?_
  refine GS.tz (fun a => [(2,pA ((a 0).x) 0),(3,pA ((a 1).x) 0)]) (fun a => [(1,.cells ((a 0).x) 23 [vI a0.Epoch,vI a0.N]),(2,.cells ((a 1).x) 23 [vI a1.Epoch,vI a1.N])]) [(0,{ act := .new .var,key := some 1 }),(1,{ act := .new .var,key := some 2 })] ?_
  intro a
  refine GS.seq ?_
  refine GS.seq ?_
  refine bnd_elim hm (fun y3 e4 hm => ?_)
  refine GS.tgM (fun _ => [(2,pA ((a 0).x) 0),(3,pA ((a 1).x) 0),(5,vI y3)]) [(1,{ act := .load 1 0 0 [] }),(3,{ act := .load 2 0 0 [] }),(4,{ act := .call [] (vI y3) })] (fun _ => [(a 0).x = (a 0).x,(a 1).x = (a 1).x,CallOK Tryz.prog 51 #[vI a0.Epoch,vI a1.Epoch] (vI y3) []]) (fun _ => ⟨rfl,rfl,(by have h1 := w_cmp_Compare_int__2 F a0.Epoch a1.Epoch e4; exact h1.ok trivial),trivial⟩) ?_
  intro _
  refine GS.seq ?_
  refine GS.tzM (fun _ => [(2,pA ((a 0).x) 0),(3,pA ((a 1).x) 0),(5,vI y3),(12,.bool (y3 != 0))]) [] ?_
  intro _
  refine GS.cond (t := y3 != 0) rfl rfl (fun h6 => ?_) (fun h6 => ?_)
  · replace hm := br_t h6 hm
    refine GS.seq ?_
    refine GS.tz (fun _ => [(4,vI y3)]) (fun _ => []) [] ?_
    intro _
    have hy := Option.some.inj hm
    subst hy
    refine GS.ret (fn := Tryz.f31) [0] [vI y3] [] rfl Tryz.func31 (by kernel_rfl) trivial (fun w' hs => ?_)
    exact ⟨(),rfl,hs.turnedG (ks := []) rfl rfl⟩
  · replace hm := br_f h6 hm
    refine GS.skip ?_
    refine GS.seq ?_
    refine bnd_elim hm (fun y9 b hm => ?_)
    refine GS.tg (fun _ => [(4,vI y9)]) (fun _ => []) [(1,{ act := .load 1 0 0 [] }),(3,{ act := .load 2 0 0 [] }),(4,{ act := .call [] (vI y9) })] (fun _ => [(a 0).x = (a 0).x,(a 1).x = (a 1).x,CallOK Tryz.prog 51 #[vI a0.N,vI a1.N] (vI y9) []]) (fun _ => ⟨rfl,rfl,(by have h1 := w_cmp_Compare_int__2 F a0.N a1.N b; exact h1.ok trivial),trivial⟩) ?_
    intro _
    have hy := Option.some.inj hm
    subst hy
    refine GS.ret (fn := Tryz.f31) [0] [vI y9] [] rfl Tryz.func31 (by kernel_rfl) trivial (fun w' hs => ?_)
    exact ⟨(),rfl,hs.turnedG (ks := []) rfl rfl⟩

theorem w_pglog_Copy_4 (F : Nat) (l : Int) (e : S_api_Version) (m : Option Addr) (p : Nat) (c : List S_api_Entry) (g : Option Addr) (o : Nat) (a : List S_api_Last) (d : Option Addr) (k : Nat) (b : List S_api_Item) {y : Int × S_api_Version × List S_api_Entry × List S_api_Last × List S_api_Item} (hm : m_pglog_Copy_4 F l e c a b = some y) : CallG Tryz.prog 32 #[.agg ((kc0 l e.Epoch e.N m c.length p g a.length o d b.length k)).toArray] (X := Option Addr × Nat × Option Addr × Nat × Option Addr × Nat) (fun ⟨x0,x1,x2,x3,x4,x5⟩ => .agg ((kc0 y.1 y.2.1.Epoch y.2.1.N x0 y.2.2.1.length x1 x2 y.2.2.2.1.length x3 x4 y.2.2.2.2.length x5)).toArray) [] [r31 m c,r94 g a,r91 d b] (fun ⟨x0,x1,x2,x3,x4,x5⟩ => [o31 x0 x1 y.2.2.1,o94 x2 x3 y.2.2.2.1,o91 x4 x5 y.2.2.2.2]) := by
  intro w hg
  rw [m_pglog_Copy_4] at hm
  refine GS.start (S := mayT [] [r31 m c,r94 g a,r91 d b]) (mem := [(1,r31 m c),(2,r94 g a),(3,r91 d b)]) Tryz.func32 rfl Tryz.ntmps32 (Nat.le_of_ble_eq_true rfl) (hg.start rfl) ?_
  refine GS.conv (env' := [(0,.agg ((kc0 l e.Epoch e.N m c.length p g a.length o d b.length k)).toArray)]) rfl rfl ?_
  refine GS.seq ?_
  refine GS.tz (fun i => [(1,pA ((i 0).x) 0),(2,pA ((i 1).x) 0)]) (fun i => [(1,r31 m c),(2,r94 g a),(3,r91 d b),(4,.cells ((i 0).x) 28 (kc0 l e.Epoch e.N m c.length p g a.length o d b.length k)),(5,.cells ((i 1).x) 28 (kc6))]) [(0,{ act := .new .var,key := some 4 }),(1,{ act := .new .var,key := some 5 })] ?_
  intro i
  refine GS.seq ?_
  refine grd_elim hm (fun g3 hm => ?_)
  refine GS.tg (fun h => [(1,pA ((i 0).x) 0),(2,pA ((i 1).x) 0)]) (fun h => [(2,r94 g a),(3,r91 d b),(4,.cells ((i 0).x) 28 (kc0 l e.Epoch e.N ((h 2).ob) c.length ((h 2).cap) g a.length o d b.length k)),(5,.cells ((i 1).x) 28 (kc6)),(6,.osl ((h 2).ob) ((h 2).cap) 31 7 (List.map S_api_Entry.row c))]) [(1,{ act := .load 4 0 0 [] }),(2,{ act := .app (some 1),key := some 6,spf := some (fun f => .slice (f.ob) c.length (f.cap)) }),(4,{ act := .store 0 0 [],key := some 4 })] (fun h => [(i 0).x = (i 0).x,m = m,c.length = (List.map S_api_Entry.row c).length,0 = 0,0 = 0,(List.map S_api_Entry.row c).length * (64 + 1) ≤ 70368744177664,((.slice ((h 2).ob) (0 + (List.map S_api_Entry.row c).length) ((h 2).cap)) : Value) = .slice ((h 2).ob) c.length ((h 2).cap),(i 0).x = (i 0).x,oC (.slice ((h 2).ob) c.length ((h 2).cap))]) (fun h => ⟨rfl,rfl,mlen S_api_Entry.row c,rfl,rfl,appb0 g3 (mlen S_api_Entry.row c).symm,slen (by rw [(mlen S_api_Entry.row c).symm,Nat.zero_add]),rfl,rfl,trivial⟩) ?_
  intro h
  refine GS.conv (mem' := [(2,r94 g a),(3,r91 d b),(4,.cells ((i 0).x) 28 (kc0 l e.Epoch e.N ((h 2).ob) c.length ((h 2).cap) g a.length o d b.length k)),(5,.cells ((i 1).x) 28 (kc6)),(6,o31 ((h 2).ob) ((h 2).cap) c)]) rfl (congrArg (fun rr : List (List Value) => ([(2,r94 g a),(3,r91 d b),(4,.cells ((i 0).x) 28 (kc0 l e.Epoch e.N ((h 2).ob) c.length ((h 2).cap) g a.length o d b.length k)),(5,.cells ((i 1).x) 28 (kc6)),(6,.osl ((h 2).ob) ((h 2).cap) 31 7 rr)] : List (Nat × Ent))) (show List.map S_api_Entry.row c = List.map S_api_Entry.row c from rfl)) ?_
  refine GS.seq ?_
  refine grd_elim hm (fun g5 hm => ?_)
  refine GS.tg (fun j => [(1,pA ((i 0).x) 0),(2,pA ((i 1).x) 0)]) (fun j => [(3,r91 d b),(4,.cells ((i 0).x) 28 (kc0 l e.Epoch e.N ((h 2).ob) c.length ((h 2).cap) ((j 2).ob) a.length ((j 2).cap) d b.length k)),(5,.cells ((i 1).x) 28 (kc6)),(6,o31 ((h 2).ob) ((h 2).cap) c),(7,.osl ((j 2).ob) ((j 2).cap) 94 5 (List.map S_api_Last.row a))]) [(1,{ act := .load 4 0 0 [] }),(2,{ act := .app (some 2),key := some 7,spf := some (fun f => .slice (f.ob) a.length (f.cap)) }),(4,{ act := .store 0 0 [],key := some 4 })] (fun j => [(i 0).x = (i 0).x,g = g,a.length = (List.map S_api_Last.row a).length,0 = 0,0 = 0,(List.map S_api_Last.row a).length * (40 + 1) ≤ 70368744177664,((.slice ((j 2).ob) (0 + (List.map S_api_Last.row a).length) ((j 2).cap)) : Value) = .slice ((j 2).ob) a.length ((j 2).cap),(i 0).x = (i 0).x,oC (.slice ((j 2).ob) a.length ((j 2).cap))]) (fun j => ⟨rfl,rfl,mlen S_api_Last.row a,rfl,rfl,appb0 g5 (mlen S_api_Last.row a).symm,slen (by rw [(mlen S_api_Last.row a).symm,Nat.zero_add]),rfl,rfl,trivial⟩) ?_
  intro j
  refine GS.conv (mem' := [(3,r91 d b),(4,.cells ((i 0).x) 28 (kc0 l e.Epoch e.N ((h 2).ob) c.length ((h 2).cap) ((j 2).ob) a.length ((j 2).cap) d b.length k)),(5,.cells ((i 1).x) 28 (kc6)),(6,o31 ((h 2).ob) ((h 2).cap) c),(7,o94 ((j 2).ob) ((j 2).cap) a)]) rfl (congrArg (fun rr : List (List Value) => ([(3,r91 d b),(4,.cells ((i 0).x) 28 (kc0 l e.Epoch e.N ((h 2).ob) c.length ((h 2).cap) ((j 2).ob) a.length ((j 2).cap) d b.length k)),(5,.cells ((i 1).x) 28 (kc6)),(6,o31 ((h 2).ob) ((h 2).cap) c),(7,.osl ((j 2).ob) ((j 2).cap) 94 5 rr)] : List (Nat × Ent))) (show List.map S_api_Last.row a = List.map S_api_Last.row a from rfl)) ?_
  refine GS.seq ?_
  refine grd_elim hm (fun g7 hm => ?_)
  refine GS.tg (fun n => [(1,pA ((i 0).x) 0),(2,pA ((i 1).x) 0)]) (fun n => [(4,.cells ((i 0).x) 28 (kc0 l e.Epoch e.N ((h 2).ob) c.length ((h 2).cap) ((j 2).ob) a.length ((j 2).cap) ((n 2).ob) b.length ((n 2).cap))),(5,.cells ((i 1).x) 28 (kc6)),(6,o31 ((h 2).ob) ((h 2).cap) c),(7,o94 ((j 2).ob) ((j 2).cap) a),(8,.osl ((n 2).ob) ((n 2).cap) 91 4 (List.map S_api_Item.row b))]) [(1,{ act := .load 4 0 0 [] }),(2,{ act := .app (some 3),key := some 8,spf := some (fun f => .slice (f.ob) b.length (f.cap)) }),(4,{ act := .store 0 0 [],key := some 4 })] (fun n => [(i 0).x = (i 0).x,d = d,b.length = (List.map S_api_Item.row b).length,0 = 0,0 = 0,(List.map S_api_Item.row b).length * (40 + 1) ≤ 70368744177664,((.slice ((n 2).ob) (0 + (List.map S_api_Item.row b).length) ((n 2).cap)) : Value) = .slice ((n 2).ob) b.length ((n 2).cap),(i 0).x = (i 0).x,oC (.slice ((n 2).ob) b.length ((n 2).cap))]) (fun n => ⟨rfl,rfl,mlen S_api_Item.row b,rfl,rfl,appb0 g7 (mlen S_api_Item.row b).symm,slen (by rw [(mlen S_api_Item.row b).symm,Nat.zero_add]),rfl,rfl,trivial⟩) ?_
  intro n
  refine GS.conv (mem' := [(4,.cells ((i 0).x) 28 (kc0 l e.Epoch e.N ((h 2).ob) c.length ((h 2).cap) ((j 2).ob) a.length ((j 2).cap) ((n 2).ob) b.length ((n 2).cap))),(5,.cells ((i 1).x) 28 (kc6)),(6,o31 ((h 2).ob) ((h 2).cap) c),(7,o94 ((j 2).ob) ((j 2).cap) a),(8,o91 ((n 2).ob) ((n 2).cap) b)]) rfl (congrArg (fun rr : List (List Value) => ([(4,.cells ((i 0).x) 28 (kc0 l e.Epoch e.N ((h 2).ob) c.length ((h 2).cap) ((j 2).ob) a.length ((j 2).cap) ((n 2).ob) b.length ((n 2).cap))),(5,.cells ((i 1).x) 28 (kc6)),(6,o31 ((h 2).ob) ((h 2).cap) c),(7,o94 ((j 2).ob) ((j 2).cap) a),(8,.osl ((n 2).ob) ((n 2).cap) 91 4 rr)] : List (Nat × Ent))) (show List.map S_api_Item.row b = List.map S_api_Item.row b from rfl)) ?_
  refine GS.seq ?_
  refine GS.tg (fun _ => [(2,pA ((i 1).x) 0)]) (fun _ => [(5,.cells ((i 1).x) 28 (kc0 l e.Epoch e.N ((h 2).ob) c.length ((h 2).cap) ((j 2).ob) a.length ((j 2).cap) ((n 2).ob) b.length ((n 2).cap))),(6,o31 ((h 2).ob) ((h 2).cap) c),(7,o94 ((j 2).ob) ((j 2).cap) a),(8,o91 ((n 2).ob) ((n 2).cap) b)]) [(0,{ act := .load 4 0 0 [] }),(1,{ act := .store 0 0 [],key := some 5 })] (fun _ => [(i 0).x = (i 0).x,(i 1).x = (i 1).x,oC (.agg ((kc0 l e.Epoch e.N ((h 2).ob) c.length ((h 2).cap) ((j 2).ob) a.length ((j 2).cap) ((n 2).ob) b.length ((n 2).cap))).toArray)]) (fun _ => ⟨rfl,rfl,rfl,trivial⟩) ?_
  intro _
  have hy := Option.some.inj hm
  subst hy
  refine GS.ret (fn := Tryz.f32) [5] [.agg ((kc0 l e.Epoch e.N ((h 2).ob) c.length ((h 2).cap) ((j 2).ob) a.length ((j 2).cap) ((n 2).ob) b.length ((n 2).cap))).toArray] [(i 1).x = (i 1).x] rfl Tryz.func32 (by kernel_rfl) ⟨rfl,trivial⟩ (fun w' hs => ?_)
  exact ⟨⟨(h 2).ob,(h 2).cap,(j 2).ob,(j 2).cap,(n 2).ob,(n 2).cap⟩,rfl,hs.turnedG (ks := [6,7,8]) rfl rfl⟩

theorem w_pglog_Find_2 (F : Nat) (p : Int) (j : S_api_Version) (i : Option Addr) (o : Nat) (k : List S_api_Entry) (f : Option Addr) (m : Nat) (g : List S_api_Last) (b : Option Addr) (d : Nat) (a : List S_api_Item) (a1 : ByteArray) {y : S_api_Item × Bool} (hm : m_pglog_Find_2 F p j k g a a1 = some y) : CallG Tryz.prog 37 #[.agg ((kc0 p j.Epoch j.N i k.length o f g.length m b a.length d)).toArray,.string a1] (X := Unit) (fun (_ : Unit) => .tuple #[.agg ((kc3 y.1.Name y.1.Version.Epoch y.1.Version.N y.1.Crc)).toArray,.bool y.2]) [] [r31 i k,r94 f g,r91 b a] (fun (_ : Unit) => []) := by
  intro w hg
  rw [m_pglog_Find_2] at hm
  refine GS.start (S := mayT [] [r31 i k,r94 f g,r91 b a]) (mem := [(1,r31 i k),(2,r94 f g),(3,r91 b a)]) Tryz.func37 rfl Tryz.ntmps37 (Nat.le_of_ble_eq_true rfl) (hg.start rfl) ?_
  refine GS.conv (env' := [(0,.agg ((kc0 p j.Epoch j.N i k.length o f g.length m b a.length d)).toArray),(1,.string a1)]) rfl rfl ?_
  refine GS.seq ?_
  refine GS.tz (fun e => [(1,.string a1),(2,pA ((e 0).x) 0),(4,pA ((e 1).x) 0)]) (fun e => [(1,r31 i k),(2,r94 f g),(3,r91 b a),(4,.cells ((e 0).x) 28 (kc0 p j.Epoch j.N i k.length o f g.length m b a.length d)),(5,.cells ((e 1).x) 91 (kc18))]) [(0,{ act := .new .var,key := some 4 }),(1,{ act := .new .var,key := some 5 })] ?_
  intro e
  refine GS.seq ?_
  refine GS.seq ?_
  refine GS.tg (fun _ => [(1,.string a1),(4,pA ((e 1).x) 0),(9,.slice b a.length d),(10,vI (a.length : Int)),(11,vI 0)]) (fun _ => [(3,r91 b a),(5,.cells ((e 1).x) 91 (kc18))]) [(1,{ act := .load 4 0 0 [] })] (fun _ => [(e 0).x = (e 0).x]) (fun _ => ⟨rfl,trivial⟩) ?_
  intro _
  refine GS.block ?_
  refine GS.loop ?_
  refine grd_elim hm (fun u hm => ?_)
  refine GS.rekey (env' := [(1,.string a1),(4,pA ((e 1).x) 0),(9,.slice b a.length d),(10,vI (a.length : Int)),(11,vI 0)]) (mem' := [(3,r91 b a),(5,.cells ((e 1).x) 91 (kc18))]) [1,4,9,10,11] [(3,3),(5,5)] (by kernel_rfl) (by kernel_rfl) rfl ?_
  refine loopL_elim hm (fun st35 fn36 hst37 hfn38 hm => ?_)
  refine GS.loopInv (ι := List S_api_Item × Nat) (I := fun ⟨n,c⟩ => a.drop c = n ∧ loopL st35 fn36 n c () = some y) (μ := fun ⟨n,c⟩ => n.length) (E := fun ⟨n,c⟩ => [(1,.string a1),(4,pA ((e 1).x) 0),(9,.slice b a.length d),(10,vI (a.length : Int)),(11,vI (c : Int))]) (M := fun ⟨n,c⟩ => [(3,r91 b a),(5,.cells ((e 1).x) 91 (kc18))]) ?_ ⟨a,0⟩ ⟨List.drop_zero ..,hm⟩
  rintro ⟨n,c⟩ ⟨q,hm⟩ s
  cases n with
  | nil =>
    replace hm := (hfn38 _ _).symm.trans hm
    try dsimp only at hm
    refine GS.seq ?_
    refine GS.tzM (fun _ => [(1,.string a1),(4,pA ((e 1).x) 0),(9,.slice b a.length d),(10,vI (a.length : Int)),(11,vI (c : Int)),(12,.bool (decide ((c : Int) < (a.length : Int))))]) [] ?_
    intro _
    refine GS.seq ?_
    refine GS.cond (t := decide ((c : Int) < (a.length : Int))) rfl rfl (fun v => absb v (drop_dec0 q)) (fun _ => ?_)
    refine GS.exit rfl ?_
    refine GS.seq ?_
    refine GS.tg (fun _ => [(4,pA ((e 1).x) 0),(5,.bool false)]) (fun _ => [(5,.cells ((e 1).x) 91 (kc18))]) [(1,{ act := .store 0 0 [],key := some 5 })] (fun _ => [(e 1).x = (e 1).x,oC (.agg ((kc18)).toArray)]) (fun _ => ⟨rfl,rfl,trivial⟩) ?_
    intro _
    have hy := Option.some.inj hm
    subst hy
    refine GS.ret (fn := Tryz.f37) [5,0] [.agg ((kc18)).toArray,.bool false] [(e 1).x = (e 1).x] rfl Tryz.func37 (by kernel_rfl) ⟨rfl,trivial⟩ (fun w' hs => ?_)
    exact ⟨(),rfl,hs.turnedG (ks := []) rfl rfl⟩
  | cons h n =>
    replace hm := (hst37 _ _ _ _).symm.trans hm
    try dsimp only at hm
    refine GS.seq ?_
    refine GS.tzM (fun _ => [(1,.string a1),(4,pA ((e 1).x) 0),(9,.slice b a.length d),(10,vI (a.length : Int)),(11,vI (c : Int)),(12,.bool (decide ((c : Int) < (a.length : Int))))]) [] ?_
    intro _
    refine GS.seq ?_
    refine GS.cond (t := decide ((c : Int) < (a.length : Int))) rfl rfl (fun _ => ?_) (fun z => absb (drop_dec q) z)
    refine GS.skip ?_
    refine GS.seq ?_
    refine GS.block ?_
    refine GS.seq ?_
    refine GS.tg (fun l => [(1,.string a1),(4,pA ((e 1).x) 0),(7,pA ((l 2).x) 0),(9,.slice b a.length d),(10,vI (a.length : Int)),(11,vI (c : Int))]) (fun l => [(3,r91 b a),(5,.cells ((e 1).x) 91 (kc18)),(6,.cells ((l 2).x) 91 (kc3 h.Name h.Version.Epoch h.Version.N h.Crc))]) [(0,{ act := .idx 3 c }),(1,{ act := .load 3 c 0 [.string h.Name,vI h.Version.Epoch,vI h.Version.N,.int .u32 h.Crc] }),(2,{ act := .new .var,key := some 6 }),(3,{ act := .store 0 0 [],key := some 6 })] (fun l => [b = b,a.length = (List.map S_api_Item.row a).length,((c : Int) : Int) = (c : Int),c < a.length,blk b = blk b,offs b + c * 4 = offs b + (c * 4 + 0),(List.map S_api_Item.row a)[c]? = some [.string h.Name,vI h.Version.Epoch,vI h.Version.N,.int .u32 h.Crc],(l 2).x = (l 2).x,oC (.agg ((kc3 h.Name h.Version.Epoch h.Version.N h.Crc)).toArray)]) (fun l => ⟨rfl,mlen S_api_Item.row a,rfl,(drop_lt q),rfl,rfl,map_drop S_api_Item.row q,rfl,rfl,trivial⟩) ?_
    intro l
    refine GS.seq ?_
    refine GS.tgM (fun _ => [(1,.string a1),(4,pA ((e 1).x) 0),(7,pA ((l 2).x) 0),(9,.slice b a.length d),(10,vI (a.length : Int)),(11,vI (c : Int)),(18,.bool (h.Name.toList == a1.toList))]) [(1,{ act := .load 6 0 0 [] })] (fun _ => [(l 2).x = (l 2).x]) (fun _ => ⟨rfl,trivial⟩) ?_
    intro _
    refine GS.cond (t := h.Name.toList == a1.toList) rfl rfl (fun r => ?_) (fun r => ?_)
    · replace hm := br_t r hm
      refine GS.seq ?_
      refine GS.tg (fun _ => [(4,pA ((e 1).x) 0),(5,.bool true)]) (fun _ => [(5,.cells ((e 1).x) 91 (kc3 h.Name h.Version.Epoch h.Version.N h.Crc))]) [(0,{ act := .load 6 0 0 [] }),(1,{ act := .store 0 0 [],key := some 5 })] (fun _ => [(l 2).x = (l 2).x,(e 1).x = (e 1).x,oC (.agg ((kc3 h.Name h.Version.Epoch h.Version.N h.Crc)).toArray)]) (fun _ => ⟨rfl,rfl,rfl,trivial⟩) ?_
      intro _
      have hy := Option.some.inj hm
      subst hy
      refine GS.ret (fn := Tryz.f37) [5,0] [.agg ((kc3 h.Name h.Version.Epoch h.Version.N h.Crc)).toArray,.bool true] [(e 1).x = (e 1).x] rfl Tryz.func37 (by kernel_rfl) ⟨rfl,trivial⟩ (fun w' hs => ?_)
      exact ⟨(),rfl,hs.turnedG (ks := []) rfl rfl⟩
    · replace hm := br_f r hm
      refine GS.skip ?_
      refine GS.inBlock ?_
      refine GS.tg (fun _ => [(1,.string a1),(4,pA ((e 1).x) 0),(9,.slice b a.length d),(10,vI (a.length : Int)),(11,vI ((c + 1 : Nat) : Int))]) (fun _ => [(3,r91 b a),(5,.cells ((e 1).x) 91 (kc18))]) [(0,{ sp := some (vI ((c + 1 : Nat) : Int)) })] (fun _ => [((vI (IntKind.i64.wrap ((c : Int) + 1))) : Value) = vI ((c + 1 : Nat) : Int)]) (fun _ => ⟨natw (drop_lt q) u,trivial⟩) ?_
      intro _
      refine GS.inLoop ?_
      refine GS.rekey (env' := [(1,.string a1),(4,pA ((e 1).x) 0),(9,.slice b a.length d),(10,vI (a.length : Int)),(11,vI ((c + 1 : Nat) : Int))]) (mem' := [(3,r91 b a),(5,.cells ((e 1).x) 91 (kc18))]) [1,4,9,10,11] [(3,3),(5,5)] (by kernel_rfl) (by kernel_rfl) rfl ?_
      exact s ⟨n,c + 1⟩ ⟨drop_next q,hm⟩ (Nat.lt_succ_self _)

theorem w_place_Good_2 (F : Nat) (a0 : ByteArray) {y : Bool} (hm : m_place_Good_2 F a0 = some y) : CallG Tryz.prog 38 #[.string a0] (X := Unit) (fun (_ : Unit) => .bool y) [] [] (fun (_ : Unit) => []) := by
  intro w hg
  rw [m_place_Good_2] at hm
  refine GS.start (S := mayT [] []) (mem := []) Tryz.func38 rfl Tryz.ntmps38 (Nat.le_of_ble_eq_true rfl) (hg.start rfl) ?_
  refine GS.conv (env' := [(0,.string a0)]) rfl rfl ?_
  refine GS.seq ?_
  refine GS.tzM (fun _ => [(0,.string a0)]) [] ?_
  intro _
  refine GS.seq ?_
  refine GS.seq ?_
  refine GS.tzM (fun _ => [(0,.string a0),(6,vI (a0.size : Int)),(7,vI 0)]) [] ?_
  intro _
  refine GS.block ?_
  refine GS.loop ?_
  refine grd_elim hm (fun k hm => ?_)
  refine GS.rekey (env' := [(0,.string a0),(6,vI (a0.size : Int)),(7,vI 0)]) (mem' := []) [0,6,7] [] (by kernel_rfl) (by kernel_rfl) rfl ?_
  refine loopC_elim hm (fun st53 fn54 hst55 hfn56 hm => ?_)
  refine GS.loopInv (ι := Nat × Nat) (I := fun ⟨b,a⟩ => (((a0.size : Int)) - (a : Int) : Int).toNat = b ∧ loopC st53 fn54 b a () = some y) (μ := fun ⟨b,a⟩ => b) (E := fun ⟨b,a⟩ => [(0,.string a0),(6,vI (a0.size : Int)),(7,vI (a : Int))]) (M := fun ⟨b,a⟩ => []) ?_ ⟨(Int.toNat ((a0.size : Int) - (0 : Int))),0⟩ ⟨rfl,hm⟩
  rintro ⟨b,a⟩ ⟨d,hm⟩ h
  cases b with
  | zero =>
    replace hm := (hfn56 _ _).symm.trans hm
    try dsimp only at hm
    refine GS.seq ?_
    refine GS.tzM (fun _ => [(0,.string a0),(6,vI (a0.size : Int)),(7,vI (a : Int)),(8,.bool (decide ((a : Int) < (a0.size : Int))))]) [] ?_
    intro _
    refine GS.seq ?_
    refine GS.cond (t := decide ((a : Int) < (a0.size : Int))) rfl rfl (fun l => absb l (cnt0 d)) (fun _ => ?_)
    refine GS.exit rfl ?_
    refine GS.seq ?_
    refine br_elim hm (fun e hm => ?_) (fun e hm => ?_)
    · skip
      refine GS.tgM (fun _ => [(2,.bool (decide ((a0.size : Int) ≤ 64)))]) [(2,{ sp := some (.bool true) })] (fun _ => [((.bool (!(a0.toList == (ByteArray.mk #[]).toList))) : Value) = .bool true]) (fun _ => ⟨bool_eq e,trivial⟩) ?_
      intro _
      have hy := Option.some.inj hm
      subst hy
      refine GS.ret (fn := Tryz.f38) [0] [.bool (decide ((a0.size : Int) ≤ 64))] [] rfl Tryz.func38 (by kernel_rfl) trivial (fun w' hs => ?_)
      exact ⟨(),rfl,hs.turnedG (ks := []) rfl rfl⟩
    · skip
      refine GS.tgM (fun _ => [(2,.bool false)]) [(2,{ sp := some (.bool false) })] (fun _ => [((.bool (!(a0.toList == (ByteArray.mk #[]).toList))) : Value) = .bool false]) (fun _ => ⟨bool_eq e,trivial⟩) ?_
      intro _
      have hy := Option.some.inj hm
      subst hy
      refine GS.ret (fn := Tryz.f38) [0] [.bool false] [] rfl Tryz.func38 (by kernel_rfl) trivial (fun w' hs => ?_)
      exact ⟨(),rfl,hs.turnedG (ks := []) rfl rfl⟩
  | succ b =>
    replace hm := (hst55 _ _ _).symm.trans hm
    try dsimp only at hm
    refine GS.seq ?_
    refine GS.tzM (fun _ => [(0,.string a0),(6,vI (a0.size : Int)),(7,vI (a : Int)),(8,.bool (decide ((a : Int) < (a0.size : Int))))]) [] ?_
    intro _
    refine GS.seq ?_
    refine GS.cond (t := decide ((a : Int) < (a0.size : Int))) rfl rfl (fun _ => ?_) (fun m => absb (cnt1 d) m)
    refine GS.skip ?_
    refine GS.seq ?_
    refine GS.block ?_
    refine GS.seq ?_
    refine GS.tzM (fun _ => [(0,.string a0),(3,vI (a : Int)),(6,vI (a0.size : Int)),(7,vI (a : Int))]) [] ?_
    intro _
    refine GS.seq ?_
    refine grd_elim hm (fun n hm => ?_)
    refine GS.tgM (fun _ => [(0,.string a0),(4,.int .u8 (((a0.data.getD a 0).toNat : Nat) : Int)),(6,vI (a0.size : Int)),(7,vI (a : Int))]) [(2,{ act := .elt a })] (fun _ => [((a : Int) : Int) = (a : Int),a < a0.size]) (fun _ => ⟨rfl,n,trivial⟩) ?_
    intro _
    refine GS.block ?_
    refine GS.seq ?_
    refine GS.seq ?_
    refine GS.tzM (fun _ => [(0,.string a0),(4,.int .u8 (((a0.data.getD a 0).toNat : Nat) : Int)),(6,vI (a0.size : Int)),(7,vI (a : Int)),(13,.bool (decide ((((a0.data.getD a 0).toNat : Nat) : Int) < 33)))]) [] ?_
    intro _
    refine jn_elim hm (fun o i hm => ?_)
    refine GS.cut (ι := Bool) (I := fun (c : Bool) => o c = some y) (E := fun (c : Bool) => [(0,.string a0),(6,vI (a0.size : Int)),(7,vI (a : Int)),(13,.bool c)]) (M := fun (c : Bool) => []) ?_ ?_
    rotate_left
    · intro j
      refine GS.cond (t := decide ((((a0.data.getD a 0).toNat : Nat) : Int) < 33)) rfl rfl (fun f => ?_) (fun f => ?_)
      · replace hm := br_t f hm
        refine GS.skip ?_
        refine GS.rekey (env' := [(0,.string a0),(6,vI (a0.size : Int)),(7,vI (a : Int)),(13,.bool (decide ((((a0.data.getD a 0).toNat : Nat) : Int) < 33)))]) (mem' := []) [0,6,7,13] [] (by kernel_rfl) (by kernel_rfl) rfl ?_
        exact j (decide ((((a0.data.getD a 0).toNat : Nat) : Int) < 33)) hm
      · replace hm := br_f f hm
        refine GS.tzM (fun _ => [(0,.string a0),(6,vI (a0.size : Int)),(7,vI (a : Int)),(13,.bool (decide ((((a0.data.getD a 0).toNat : Nat) : Int) > 126)))]) [] ?_
        intro _
        refine GS.rekey (env' := [(0,.string a0),(6,vI (a0.size : Int)),(7,vI (a : Int)),(13,.bool (decide ((((a0.data.getD a 0).toNat : Nat) : Int) > 126)))]) (mem' := []) [0,6,7,13] [] (by kernel_rfl) (by kernel_rfl) rfl ?_
        exact j (decide ((((a0.data.getD a 0).toNat : Nat) : Int) > 126)) hm
    · rintro c hm
      replace hm := (i _).symm.trans hm
      try dsimp only at hm
      refine GS.cond (t := c) rfl rfl (fun g => ?_) (fun g => ?_)
      · replace hm := br_t g hm
        refine GS.seq ?_
        refine GS.tzM (fun _ => [(2,.bool false)]) [] ?_
        intro _
        have hy := Option.some.inj hm
        subst hy
        refine GS.ret (fn := Tryz.f38) [0] [.bool false] [] rfl Tryz.func38 (by kernel_rfl) trivial (fun w' hs => ?_)
        exact ⟨(),rfl,hs.turnedG (ks := []) rfl rfl⟩
      · replace hm := br_f g hm
        refine GS.skip ?_
        refine GS.inBlock ?_
        refine GS.inBlock ?_
        refine GS.tgM (fun _ => [(0,.string a0),(6,vI (a0.size : Int)),(7,vI ((a + 1 : Nat) : Int))]) [(0,{ sp := some (vI ((a + 1 : Nat) : Int)) })] (fun _ => [((vI (IntKind.i64.wrap ((a : Int) + 1))) : Value) = vI ((a + 1 : Nat) : Int)]) (fun _ => ⟨natwB (cnt1 d) k,trivial⟩) ?_
        intro _
        refine GS.inLoop ?_
        refine GS.rekey (env' := [(0,.string a0),(6,vI (a0.size : Int)),(7,vI ((a + 1 : Nat) : Int))]) (mem' := []) [0,6,7] [] (by kernel_rfl) (by kernel_rfl) rfl ?_
        exact h ⟨b,a + 1⟩ ⟨cntN d,hm⟩ (Nat.lt_succ_self _)

theorem w_pglog_lastClient (F : Nat) (a0 : S_api_Last) {y : Int} (hm : m_pglog_lastClient F a0 = some y) : CallG Tryz.prog 53 #[.agg ((kc4 a0.Client a0.Number a0.Errno a0.Version.Epoch a0.Version.N)).toArray] (X := Unit) (fun (_ : Unit) => vI y) [] [] (fun (_ : Unit) => []) := by
  intro w hg
  rw [m_pglog_lastClient] at hm
  refine GS.start (S := mayT [] []) (mem := []) Tryz.func53 rfl Tryz.ntmps53 (Nat.le_of_ble_eq_true rfl) (hg.start rfl) ?_
  refine GS.conv (env' := [(0,.agg ((kc4 a0.Client a0.Number a0.Errno a0.Version.Epoch a0.Version.N)).toArray)]) rfl rfl ?_
  refine GS.seq ?_
  refine GS.tz (fun a => [(1,pA ((a 0).x) 0)]) (fun a => [(1,.cells ((a 0).x) 94 (kc4 a0.Client a0.Number a0.Errno a0.Version.Epoch a0.Version.N))]) [(0,{ act := .new .var,key := some 1 })] ?_
  intro a
  refine GS.seq ?_
  refine GS.tg (fun _ => [(2,vI a0.Client)]) (fun _ => []) [(1,{ act := .load 1 0 0 [] })] (fun _ => [(a 0).x = (a 0).x]) (fun _ => ⟨rfl,trivial⟩) ?_
  intro _
  have hy := Option.some.inj hm
  subst hy
  refine GS.ret (fn := Tryz.f53) [0] [vI a0.Client] [] rfl Tryz.func53 (by kernel_rfl) trivial (fun w' hs => ?_)
  exact ⟨(),rfl,hs.turnedG (ks := []) rfl rfl⟩

theorem w_pglog_look_api_Last_int__1 (F : Nat) (a0 : S_api_Last) (a1 : Int) (a : Nat) {y : Int} (hm : m_pglog_look_api_Last_int__1 F a0 a1 = some y) : CallG Tryz.prog 77 #[.agg ((kc4 a0.Client a0.Number a0.Errno a0.Version.Epoch a0.Version.N)).toArray,vI a1,pA a 0] (X := Unit) (fun (_ : Unit) => vI y) [] [.rd (some ⟨a,0,none⟩) 1 [[.func (.func 53) #[] #[]]]] (fun (_ : Unit) => []) := by
  intro w hg
  rw [m_pglog_look_api_Last_int__1] at hm
  refine GS.start (S := mayT [] [.rd (some ⟨a,0,none⟩) 1 [[.func (.func 53) #[] #[]]]]) (mem := [(1,.rd (some ⟨a,0,none⟩) 1 [[.func (.func 53) #[] #[]]])]) Tryz.func77 rfl Tryz.ntmps77 (Nat.le_of_ble_eq_true rfl) (hg.start rfl) ?_
  refine GS.conv (env' := [(0,.agg ((kc4 a0.Client a0.Number a0.Errno a0.Version.Epoch a0.Version.N)).toArray),(1,vI a1),(2,pA a 0)]) rfl rfl ?_
  refine GS.seq ?_
  refine GS.tz (fun b => [(1,vI a1),(2,pA a 0),(3,pA ((b 0).x) 0)]) (fun b => [(1,.rd (some ⟨a,0,none⟩) 1 [[.func (.func 53) #[] #[]]]),(2,.cells ((b 0).x) 94 (kc4 a0.Client a0.Number a0.Errno a0.Version.Epoch a0.Version.N))]) [(0,{ act := .new .var,key := some 2 })] ?_
  intro b
  refine GS.seq ?_
  refine bnd_elim hm (fun y3 e4 hm => ?_)
  refine bnd_elim hm (fun y5 e6 hm => ?_)
  refine GS.tg (fun _ => [(5,vI y5)]) (fun _ => []) [(0,{ act := .load 1 0 0 [.func (.func 53) #[] #[]] }),(1,{ act := .load 2 0 0 [] }),(2,{ act := .call [] (vI y3) }),(4,{ act := .call [] (vI y5) })] (fun _ => [a = blk (some ⟨a,0,none⟩),0 = offs (some ⟨a,0,none⟩) + (0 * 1 + 0),([[.func (.func 53) #[] #[]]] : List (List Value))[0]? = some [.func (.func 53) #[] #[]],(b 0).x = (b 0).x,CallOK Tryz.prog 53 #[.agg ((kc4 a0.Client a0.Number a0.Errno a0.Version.Epoch a0.Version.N)).toArray] (vI y3) [],CallOK Tryz.prog 51 #[vI y3,vI a1] (vI y5) []]) (fun _ => ⟨rfl,rfl,rfl,rfl,(by have h1 := w_pglog_lastClient F a0 e4; exact h1.ok trivial),(by have h1 := w_cmp_Compare_int__2 F y3 a1 e6; exact h1.ok trivial),trivial⟩) ?_
  intro _
  have hy := Option.some.inj hm
  subst hy
  refine GS.ret (fn := Tryz.f77) [0] [vI y5] [] rfl Tryz.func77 (by kernel_rfl) trivial (fun w' hs => ?_)
  exact ⟨(),rfl,hs.turnedG (ks := []) rfl rfl⟩

theorem w_slices_BinarySearchFunc___api_Last_api_Last_int__2 (F : Nat) (c : Option Addr) (d : Nat) (a0 : List S_api_Last) (a1 : Int) (a2c0b : Nat) {y : Int × Bool} (hm : m_slices_BinarySearchFunc___api_Last_api_Last_int__2 F a0 a1 = some y) : CallG Tryz.prog 76 #[.slice c a0.length d,vI a1,.func (.func 77) #[] #[pA a2c0b 0]] (X := Unit) (fun (_ : Unit) => .tuple #[vI y.1,.bool y.2]) [] [r94 c a0,.rd (some ⟨a2c0b,0,none⟩) 1 [[.func (.func 53) #[] #[]]]] (fun (_ : Unit) => []) := by
  intro w hg
  rw [m_slices_BinarySearchFunc___api_Last_api_Last_int__2] at hm
  refine GS.start (S := mayT [] [r94 c a0,.rd (some ⟨a2c0b,0,none⟩) 1 [[.func (.func 53) #[] #[]]]]) (mem := [(1,r94 c a0),(2,.rd (some ⟨a2c0b,0,none⟩) 1 [[.func (.func 53) #[] #[]]])]) Tryz.func76 rfl Tryz.ntmps76 (Nat.le_of_ble_eq_true rfl) (hg.start rfl) ?_
  refine GS.conv (env' := [(0,.slice c a0.length d),(1,vI a1),(2,.func (.func 77) #[] #[pA a2c0b 0])]) rfl rfl ?_
  refine GS.seq ?_
  refine GS.tzM (fun _ => [(0,.slice c a0.length d),(1,vI a1),(2,.func (.func 77) #[] #[pA a2c0b 0])]) [] ?_
  intro _
  refine GS.seq ?_
  refine GS.tzM (fun _ => [(0,.slice c a0.length d),(1,vI a1),(2,.func (.func 77) #[] #[pA a2c0b 0]),(8,vI (a0.length : Int))]) [] ?_
  intro _
  refine GS.seq ?_
  refine GS.tzM (fun _ => [(0,.slice c a0.length d),(1,vI a1),(2,.func (.func 77) #[] #[pA a2c0b 0]),(8,vI (a0.length : Int)),(9,vI 0),(10,vI (a0.length : Int))]) [] ?_
  intro _
  refine GS.seq ?_
  refine GS.block ?_
  refine GS.loop ?_
  refine GS.rekey (env' := [(0,.slice c a0.length d),(1,vI a1),(2,.func (.func 77) #[] #[pA a2c0b 0]),(8,vI (a0.length : Int)),(9,vI 0),(10,vI (a0.length : Int))]) (mem' := [(1,r94 c a0),(2,.rd (some ⟨a2c0b,0,none⟩) 1 [[.func (.func 53) #[] #[]]])]) [0,1,2,8,9,10] [(1,1),(2,2)] (by kernel_rfl) (by kernel_rfl) rfl ?_
  refine loopW_elim hm (fun st62 hst64 hm => ?_)
  refine GS.loopInv (ι := Nat × Int × Int) (I := fun ⟨e,a,b⟩ => loopW st62 e (a,b) = some y) (μ := fun ⟨e,a,b⟩ => e) (E := fun ⟨e,a,b⟩ => [(0,.slice c a0.length d),(1,vI a1),(2,.func (.func 77) #[] #[pA a2c0b 0]),(8,vI (a0.length : Int)),(9,vI a),(10,vI b)]) (M := fun ⟨e,a,b⟩ => [(1,r94 c a0),(2,.rd (some ⟨a2c0b,0,none⟩) 1 [[.func (.func 53) #[] #[]]])]) ?_ ⟨F,0,(a0.length : Int)⟩ hm
  rintro ⟨e,a,b⟩ hm h
  cases e with
  | zero => cases hm
  | succ e =>
    replace hm := (hst64 _ _).symm.trans hm
    try dsimp only at hm
    refine GS.seq ?_
    refine GS.seq ?_
    refine GS.tzM (fun _ => [(0,.slice c a0.length d),(1,vI a1),(2,.func (.func 77) #[] #[pA a2c0b 0]),(8,vI (a0.length : Int)),(9,vI a),(10,vI b),(17,.bool (decide (a < b)))]) [] ?_
    intro _
    refine GS.cond (t := decide (a < b)) rfl rfl (fun i => ?_) (fun i => ?_)
    · replace hm := br_t i hm
      refine GS.skip ?_
      refine GS.block ?_
      refine GS.seq ?_
      refine grd_elim hm (fun n hm => ?_)
      refine GS.tgM (fun _ => [(0,.slice c a0.length d),(1,vI a1),(2,.func (.func 77) #[] #[pA a2c0b 0]),(8,vI (a0.length : Int)),(9,vI a),(10,vI b),(11,vI (IntKind.i64.wrap (Int.fdiv (IntKind.u64.wrap (a + b)) (2 ^ 1))))]) [(2,{ sp := some (vI (a + b)) })] (fun _ => [oW (a + b)]) (fun _ => ⟨I64.w n,trivial⟩) ?_
      intro _
      refine GS.seq ?_
      refine grd_elim hm (fun j hm => ?_)
      refine bnd_elim hm (fun f o hm => ?_)
      refine GS.tgM (fun _ => [(0,.slice c a0.length d),(1,vI a1),(2,.func (.func 77) #[] #[pA a2c0b 0]),(8,vI (a0.length : Int)),(9,vI a),(10,vI b),(11,vI (IntKind.i64.wrap (Int.fdiv (IntKind.u64.wrap (a + b)) (2 ^ 1)))),(31,.bool (decide (f < 0)))]) [(3,{ act := .idx 1 (Int.toNat (IntKind.i64.wrap (Int.fdiv (IntKind.u64.wrap (a + b)) (2 ^ 1)))) }),(4,{ act := .load 1 (Int.toNat (IntKind.i64.wrap (Int.fdiv (IntKind.u64.wrap (a + b)) (2 ^ 1)))) 0 [vI ((a0.getD (Int.toNat (IntKind.i64.wrap (Int.fdiv (IntKind.u64.wrap (a + b)) (2 ^ 1)))) dS_api_Last).Client),vI ((a0.getD (Int.toNat (IntKind.i64.wrap (Int.fdiv (IntKind.u64.wrap (a + b)) (2 ^ 1)))) dS_api_Last).Number),vI ((a0.getD (Int.toNat (IntKind.i64.wrap (Int.fdiv (IntKind.u64.wrap (a + b)) (2 ^ 1)))) dS_api_Last).Errno),vI (((a0.getD (Int.toNat (IntKind.i64.wrap (Int.fdiv (IntKind.u64.wrap (a + b)) (2 ^ 1)))) dS_api_Last).Version).Epoch),vI (((a0.getD (Int.toNat (IntKind.i64.wrap (Int.fdiv (IntKind.u64.wrap (a + b)) (2 ^ 1)))) dS_api_Last).Version).N)] }),(6,{ act := .call [2] (vI f) })] (fun _ => [c = c,a0.length = (List.map S_api_Last.row a0).length,((IntKind.i64.wrap (Int.fdiv (IntKind.u64.wrap (a + b)) (2 ^ 1))) : Int) = (((Int.toNat (IntKind.i64.wrap (Int.fdiv (IntKind.u64.wrap (a + b)) (2 ^ 1)))) : Nat) : Int),(Int.toNat (IntKind.i64.wrap (Int.fdiv (IntKind.u64.wrap (a + b)) (2 ^ 1)))) < a0.length,blk c = blk c,offs c + (Int.toNat (IntKind.i64.wrap (Int.fdiv (IntKind.u64.wrap (a + b)) (2 ^ 1)))) * 5 = offs c + ((Int.toNat (IntKind.i64.wrap (Int.fdiv (IntKind.u64.wrap (a + b)) (2 ^ 1)))) * 5 + 0),(List.map S_api_Last.row a0)[(Int.toNat (IntKind.i64.wrap (Int.fdiv (IntKind.u64.wrap (a + b)) (2 ^ 1))))]? = some [vI ((a0.getD (Int.toNat (IntKind.i64.wrap (Int.fdiv (IntKind.u64.wrap (a + b)) (2 ^ 1)))) dS_api_Last).Client),vI ((a0.getD (Int.toNat (IntKind.i64.wrap (Int.fdiv (IntKind.u64.wrap (a + b)) (2 ^ 1)))) dS_api_Last).Number),vI ((a0.getD (Int.toNat (IntKind.i64.wrap (Int.fdiv (IntKind.u64.wrap (a + b)) (2 ^ 1)))) dS_api_Last).Errno),vI (((a0.getD (Int.toNat (IntKind.i64.wrap (Int.fdiv (IntKind.u64.wrap (a + b)) (2 ^ 1)))) dS_api_Last).Version).Epoch),vI (((a0.getD (Int.toNat (IntKind.i64.wrap (Int.fdiv (IntKind.u64.wrap (a + b)) (2 ^ 1)))) dS_api_Last).Version).N)],CallOK Tryz.prog 77 #[.agg ((kc4 ((a0.getD (Int.toNat (IntKind.i64.wrap (Int.fdiv (IntKind.u64.wrap (a + b)) (2 ^ 1)))) dS_api_Last).Client) ((a0.getD (Int.toNat (IntKind.i64.wrap (Int.fdiv (IntKind.u64.wrap (a + b)) (2 ^ 1)))) dS_api_Last).Number) ((a0.getD (Int.toNat (IntKind.i64.wrap (Int.fdiv (IntKind.u64.wrap (a + b)) (2 ^ 1)))) dS_api_Last).Errno) (((a0.getD (Int.toNat (IntKind.i64.wrap (Int.fdiv (IntKind.u64.wrap (a + b)) (2 ^ 1)))) dS_api_Last).Version).Epoch) (((a0.getD (Int.toNat (IntKind.i64.wrap (Int.fdiv (IntKind.u64.wrap (a + b)) (2 ^ 1)))) dS_api_Last).Version).N))).toArray,vI a1,pA a2c0b 0] (vI f) [some (.rd (some ⟨a2c0b,0,none⟩) 1 [[.func (.func 53) #[] #[]]])]]) (fun _ => ⟨rfl,mlen S_api_Last.row a0,j.eq,j.2,rfl,rfl,map_at S_api_Last.row dS_api_Last j.2,(by have h1 := w_pglog_look_api_Last_int__1 F (a0.getD (Int.toNat (IntKind.i64.wrap (Int.fdiv (IntKind.u64.wrap (a + b)) (2 ^ 1)))) dS_api_Last) a1 a2c0b o; exact h1.ok ⟨(.inl ⟨.rd (some ⟨a2c0b,0,none⟩) 1 [[.func (.func 53) #[] #[]]],.head _,Cov.refl _⟩),trivial⟩),trivial⟩) ?_
      intro _
      refine GS.cond (t := decide (f < 0)) rfl rfl (fun k => ?_) (fun k => ?_)
      · replace hm := br_t k hm
        refine grd_elim hm (fun p hm => ?_)
        refine GS.tgM (fun _ => [(0,.slice c a0.length d),(1,vI a1),(2,.func (.func 77) #[] #[pA a2c0b 0]),(8,vI (a0.length : Int)),(9,vI ((IntKind.i64.wrap (Int.fdiv (IntKind.u64.wrap (a + b)) (2 ^ 1))) + 1)),(10,vI b)]) [(1,{ sp := some (vI ((IntKind.i64.wrap (Int.fdiv (IntKind.u64.wrap (a + b)) (2 ^ 1))) + 1)) })] (fun _ => [oW ((IntKind.i64.wrap (Int.fdiv (IntKind.u64.wrap (a + b)) (2 ^ 1))) + 1)]) (fun _ => ⟨I64.w p,trivial⟩) ?_
        intro _
        refine GS.inBlock ?_
        refine GS.inLoop ?_
        refine GS.rekey (env' := [(0,.slice c a0.length d),(1,vI a1),(2,.func (.func 77) #[] #[pA a2c0b 0]),(8,vI (a0.length : Int)),(9,vI ((IntKind.i64.wrap (Int.fdiv (IntKind.u64.wrap (a + b)) (2 ^ 1))) + 1)),(10,vI b)]) (mem' := [(1,r94 c a0),(2,.rd (some ⟨a2c0b,0,none⟩) 1 [[.func (.func 53) #[] #[]]])]) [0,1,2,8,9,10] [(1,1),(2,2)] (by kernel_rfl) (by kernel_rfl) rfl ?_
        exact h ⟨e,((IntKind.i64.wrap (Int.fdiv (IntKind.u64.wrap (a + b)) (2 ^ 1))) + 1),b⟩ hm (Nat.lt_succ_self _)
      · replace hm := br_f k hm
        refine GS.tzM (fun _ => [(0,.slice c a0.length d),(1,vI a1),(2,.func (.func 77) #[] #[pA a2c0b 0]),(8,vI (a0.length : Int)),(9,vI a),(10,vI (IntKind.i64.wrap (Int.fdiv (IntKind.u64.wrap (a + b)) (2 ^ 1))))]) [] ?_
        intro _
        refine GS.inBlock ?_
        refine GS.inLoop ?_
        refine GS.rekey (env' := [(0,.slice c a0.length d),(1,vI a1),(2,.func (.func 77) #[] #[pA a2c0b 0]),(8,vI (a0.length : Int)),(9,vI a),(10,vI (IntKind.i64.wrap (Int.fdiv (IntKind.u64.wrap (a + b)) (2 ^ 1))))]) (mem' := [(1,r94 c a0),(2,.rd (some ⟨a2c0b,0,none⟩) 1 [[.func (.func 53) #[] #[]]])]) [0,1,2,8,9,10] [(1,1),(2,2)] (by kernel_rfl) (by kernel_rfl) rfl ?_
        exact h ⟨e,a,(IntKind.i64.wrap (Int.fdiv (IntKind.u64.wrap (a + b)) (2 ^ 1)))⟩ hm (Nat.lt_succ_self _)
    · replace hm := br_f i hm
      refine GS.exit rfl ?_
      refine GS.seq ?_
      refine br_elim hm (fun l hm => ?_) (fun l hm => ?_)
      · skip
        refine grd_elim hm (fun m hm => ?_)
        refine bnd_elim hm (fun g q hm => ?_)
        refine GS.tg (fun _ => [(6,vI a),(7,.bool (g == 0))]) (fun _ => []) [(4,{ sp := some (.bool true) }),(8,{ act := .idx 1 (Int.toNat a) }),(9,{ act := .load 1 (Int.toNat a) 0 [vI ((a0.getD (Int.toNat a) dS_api_Last).Client),vI ((a0.getD (Int.toNat a) dS_api_Last).Number),vI ((a0.getD (Int.toNat a) dS_api_Last).Errno),vI (((a0.getD (Int.toNat a) dS_api_Last).Version).Epoch),vI (((a0.getD (Int.toNat a) dS_api_Last).Version).N)] }),(11,{ act := .call [2] (vI g) })] (fun _ => [((.bool (decide (a < (a0.length : Int)))) : Value) = .bool true,c = c,a0.length = (List.map S_api_Last.row a0).length,(a : Int) = (((Int.toNat a) : Nat) : Int),(Int.toNat a) < a0.length,blk c = blk c,offs c + (Int.toNat a) * 5 = offs c + ((Int.toNat a) * 5 + 0),(List.map S_api_Last.row a0)[(Int.toNat a)]? = some [vI ((a0.getD (Int.toNat a) dS_api_Last).Client),vI ((a0.getD (Int.toNat a) dS_api_Last).Number),vI ((a0.getD (Int.toNat a) dS_api_Last).Errno),vI (((a0.getD (Int.toNat a) dS_api_Last).Version).Epoch),vI (((a0.getD (Int.toNat a) dS_api_Last).Version).N)],CallOK Tryz.prog 77 #[.agg ((kc4 ((a0.getD (Int.toNat a) dS_api_Last).Client) ((a0.getD (Int.toNat a) dS_api_Last).Number) ((a0.getD (Int.toNat a) dS_api_Last).Errno) (((a0.getD (Int.toNat a) dS_api_Last).Version).Epoch) (((a0.getD (Int.toNat a) dS_api_Last).Version).N))).toArray,vI a1,pA a2c0b 0] (vI g) [some (.rd (some ⟨a2c0b,0,none⟩) 1 [[.func (.func 53) #[] #[]]])]]) (fun _ => ⟨bool_eq l,rfl,mlen S_api_Last.row a0,m.eq,m.2,rfl,rfl,map_at S_api_Last.row dS_api_Last m.2,(by have h1 := w_pglog_look_api_Last_int__1 F (a0.getD (Int.toNat a) dS_api_Last) a1 a2c0b q; exact h1.ok ⟨(.inl ⟨.rd (some ⟨a2c0b,0,none⟩) 1 [[.func (.func 53) #[] #[]]],.head _,Cov.refl _⟩),trivial⟩),trivial⟩) ?_
        intro _
        have hy := Option.some.inj hm
        subst hy
        refine GS.ret (fn := Tryz.f76) [0,0] [vI a,.bool (g == 0)] [] rfl Tryz.func76 (by kernel_rfl) trivial (fun w' hs => ?_)
        exact ⟨(),rfl,hs.turnedG (ks := []) rfl rfl⟩
      · skip
        refine GS.tg (fun _ => [(6,vI a),(7,.bool false)]) (fun _ => []) [(4,{ sp := some (.bool false) })] (fun _ => [((.bool (decide (a < (a0.length : Int)))) : Value) = .bool false]) (fun _ => ⟨bool_eq l,trivial⟩) ?_
        intro _
        have hy := Option.some.inj hm
        subst hy
        refine GS.ret (fn := Tryz.f76) [0,0] [vI a,.bool false] [] rfl Tryz.func76 (by kernel_rfl) trivial (fun w' hs => ?_)
        exact ⟨(),rfl,hs.turnedG (ks := []) rfl rfl⟩

theorem w_pglog_look_api_Last_int__2 (F : Nat) (a : Option Addr) (c : Nat) (a0 : List S_api_Last) (a2 : Int) {y : Int × Bool} (hm : m_pglog_look_api_Last_int__2 F a0 a2 = some y) : CallG Tryz.prog 52 #[.slice a a0.length c,.func (.func 53) #[] #[],vI a2] (X := Unit) (fun (_ : Unit) => .tuple #[vI y.1,.bool y.2]) [] [r94 a a0] (fun (_ : Unit) => []) := by
  intro w hg
  rw [m_pglog_look_api_Last_int__2] at hm
  refine GS.start (S := mayT [] [r94 a a0]) (mem := [(1,r94 a a0)]) Tryz.func52 rfl Tryz.ntmps52 (Nat.le_of_ble_eq_true rfl) (hg.start rfl) ?_
  refine GS.conv (env' := [(0,.slice a a0.length c),(1,.func (.func 53) #[] #[]),(2,vI a2)]) rfl rfl ?_
  refine GS.seq ?_
  refine GS.tz (fun b => [(0,.slice a a0.length c),(2,vI a2),(4,pA ((b 0).x) 0)]) (fun b => [(1,r94 a a0),(2,.cells ((b 0).x) 115 [.func (.func 53) #[] #[]])]) [(0,{ act := .new .var,key := some 2 })] ?_
  intro b
  refine GS.seq ?_
  refine bnd_elim hm (fun y3 e4 hm => ?_)
  refine GS.tg (fun _ => [(6,vI y3.1),(7,.bool y3.2)]) (fun _ => []) [(3,{ act := .call [1,2] (.tuple #[vI y3.1,.bool y3.2]) })] (fun _ => [CallOK Tryz.prog 76 #[.slice a a0.length c,vI a2,.func (.func 77) #[] #[pA ((b 0).x) 0]] (.tuple #[vI y3.1,.bool y3.2]) [some (r94 a a0),some (.cells ((b 0).x) 115 [.func (.func 53) #[] #[]])]]) (fun _ => ⟨(by have h1 := w_slices_BinarySearchFunc___api_Last_api_Last_int__2 F a c a0 a2 (b 0).x e4; exact h1.ok ⟨(.inl ⟨r94 a a0,.head _,Cov.refl _⟩),(.inl ⟨.cells ((b 0).x) 115 [.func (.func 53) #[] #[]],(.tail _ (.head _)),Cov.cells_rd⟩),trivial⟩),trivial⟩) ?_
  intro _
  have hy := Option.some.inj hm
  subst hy
  refine GS.ret (fn := Tryz.f52) [0,0] [vI y3.1,.bool y3.2] [] rfl Tryz.func52 (by kernel_rfl) trivial (fun w' hs => ?_)
  exact ⟨(),rfl,hs.turnedG (ks := []) rfl rfl⟩

theorem w_pglog_itemName (F : Nat) (a0 : S_api_Item) {y : ByteArray} (hm : m_pglog_itemName F a0 = some y) : CallG Tryz.prog 56 #[.agg ((kc3 a0.Name a0.Version.Epoch a0.Version.N a0.Crc)).toArray] (X := Unit) (fun (_ : Unit) => .string y) [] [] (fun (_ : Unit) => []) := by
  intro w hg
  rw [m_pglog_itemName] at hm
  refine GS.start (S := mayT [] []) (mem := []) Tryz.func56 rfl Tryz.ntmps56 (Nat.le_of_ble_eq_true rfl) (hg.start rfl) ?_
  refine GS.conv (env' := [(0,.agg ((kc3 a0.Name a0.Version.Epoch a0.Version.N a0.Crc)).toArray)]) rfl rfl ?_
  refine GS.seq ?_
  refine GS.tz (fun a => [(1,pA ((a 0).x) 0)]) (fun a => [(1,.cells ((a 0).x) 91 (kc3 a0.Name a0.Version.Epoch a0.Version.N a0.Crc))]) [(0,{ act := .new .var,key := some 1 })] ?_
  intro a
  refine GS.seq ?_
  refine GS.tg (fun _ => [(2,.string a0.Name)]) (fun _ => []) [(1,{ act := .load 1 0 0 [] })] (fun _ => [(a 0).x = (a 0).x]) (fun _ => ⟨rfl,trivial⟩) ?_
  intro _
  have hy := Option.some.inj hm
  subst hy
  refine GS.ret (fn := Tryz.f56) [0] [.string a0.Name] [] rfl Tryz.func56 (by kernel_rfl) trivial (fun w' hs => ?_)
  exact ⟨(),rfl,hs.turnedG (ks := []) rfl rfl⟩

theorem w_cmp_isNaN_string_ (F : Nat) (a0 : ByteArray) {y : Bool} (hm : m_cmp_isNaN_string_ F a0 = some y) : CallG Tryz.prog 107 #[.string a0] (X := Unit) (fun (_ : Unit) => .bool y) [] [] (fun (_ : Unit) => []) := by
  intro w hg
  rw [m_cmp_isNaN_string_] at hm
  refine GS.start (S := mayT [] []) (mem := []) Tryz.func107 rfl Tryz.ntmps107 (Nat.le_of_ble_eq_true rfl) (hg.start rfl) ?_
  refine GS.conv (env' := [(0,.string a0)]) rfl rfl ?_
  refine GS.seq ?_
  refine GS.tzM (fun _ => [(0,.string a0)]) [] ?_
  intro _
  refine GS.seq ?_
  refine GS.tzM (fun _ => [(2,.bool (!(a0.toList == a0.toList)))]) [] ?_
  intro _
  have hy := Option.some.inj hm
  subst hy
  refine GS.ret (fn := Tryz.f107) [0] [.bool (!(a0.toList == a0.toList))] [] rfl Tryz.func107 (by kernel_rfl) trivial (fun w' hs => ?_)
  exact ⟨(),rfl,hs.turnedG (ks := []) rfl rfl⟩

theorem w_cmp_Compare_string_ (F : Nat) (a0 : ByteArray) (a1 : ByteArray) {y : Int} (hm : m_cmp_Compare_string_ F a0 a1 = some y) : CallG Tryz.prog 82 #[.string a0,.string a1] (X := Unit) (fun (_ : Unit) => vI y) [] [] (fun (_ : Unit) => []) := by
  intro w hg
  rw [m_cmp_Compare_string_] at hm
  refine GS.start (S := mayT [] []) (mem := []) Tryz.func82 rfl Tryz.ntmps82 (Nat.le_of_ble_eq_true rfl) (hg.start rfl) ?_
  refine GS.conv (env' := [(0,.string a0),(1,.string a1)]) rfl rfl ?_
  refine GS.seq ?_
  refine GS.tzM (fun _ => [(0,.string a0),(1,.string a1)]) [] ?_
  intro _
  refine GS.seq ?_
  refine bnd_elim hm (fun y3 e4 hm => ?_)
  refine GS.tgM (fun _ => [(0,.string a0),(1,.string a1),(5,.bool y3)]) [(1,{ act := .call [] (.bool y3) })] (fun _ => [CallOK Tryz.prog 107 #[.string a0] (.bool y3) []]) (fun _ => ⟨(by have h1 := w_cmp_isNaN_string_ F a0 e4; exact h1.ok trivial),trivial⟩) ?_
  intro _
  refine GS.seq ?_
  refine bnd_elim hm (fun y6 e7 hm => ?_)
  refine GS.tgM (fun _ => [(0,.string a0),(1,.string a1),(5,.bool y3),(6,.bool y6)]) [(1,{ act := .call [] (.bool y6) })] (fun _ => [CallOK Tryz.prog 107 #[.string a1] (.bool y6) []]) (fun _ => ⟨(by have h1 := w_cmp_isNaN_string_ F a1 e7; exact h1.ok trivial),trivial⟩) ?_
  intro _
  refine GS.seq ?_
  refine GS.seq ?_
  refine GS.tzM (fun _ => [(0,.string a0),(1,.string a1),(6,.bool y6),(11,.bool y3)]) [] ?_
  intro _
  refine GS.cond (t := y3) rfl rfl (fun h9 => ?_) (fun h9 => ?_)
  · replace hm := br_t h9 hm
    refine GS.seq ?_
    refine GS.seq ?_
    refine GS.tzM (fun _ => [(12,.bool y6)]) [] ?_
    intro _
    refine GS.cond (t := y6) rfl rfl (fun a => ?_) (fun a => ?_)
    · replace hm := br_t a hm
      refine GS.seq ?_
      refine GS.tzM (fun _ => [(4,vI 0)]) [] ?_
      intro _
      have hy := Option.some.inj hm
      subst hy
      refine GS.ret (fn := Tryz.f82) [0] [vI 0] [] rfl Tryz.func82 (by kernel_rfl) trivial (fun w' hs => ?_)
      exact ⟨(),rfl,hs.turnedG (ks := []) rfl rfl⟩
    · replace hm := br_f a hm
      refine GS.skip ?_
      refine GS.seq ?_
      refine GS.tzM (fun _ => [(4,vI (-1))]) [] ?_
      intro _
      have hy := Option.some.inj hm
      subst hy
      refine GS.ret (fn := Tryz.f82) [0] [vI (-1)] [] rfl Tryz.func82 (by kernel_rfl) trivial (fun w' hs => ?_)
      exact ⟨(),rfl,hs.turnedG (ks := []) rfl rfl⟩
  · replace hm := br_f h9 hm
    refine GS.skip ?_
    refine GS.seq ?_
    refine GS.seq ?_
    refine GS.tzM (fun _ => [(0,.string a0),(1,.string a1),(13,.bool y6)]) [] ?_
    intro _
    refine GS.cond (t := y6) rfl rfl (fun b => ?_) (fun b => ?_)
    · replace hm := br_t b hm
      refine GS.seq ?_
      refine GS.tzM (fun _ => [(4,vI 1)]) [] ?_
      intro _
      have hy := Option.some.inj hm
      subst hy
      refine GS.ret (fn := Tryz.f82) [0] [vI 1] [] rfl Tryz.func82 (by kernel_rfl) trivial (fun w' hs => ?_)
      exact ⟨(),rfl,hs.turnedG (ks := []) rfl rfl⟩
    · replace hm := br_f b hm
      refine GS.skip ?_
      refine GS.seq ?_
      refine GS.seq ?_
      refine GS.tzM (fun _ => [(0,.string a0),(1,.string a1),(16,.bool (Op.bytesLess a0.toList a1.toList))]) [] ?_
      intro _
      refine GS.cond (t := Op.bytesLess a0.toList a1.toList) rfl rfl (fun c => ?_) (fun c => ?_)
      · replace hm := br_t c hm
        refine GS.seq ?_
        refine GS.tzM (fun _ => [(4,vI (-1))]) [] ?_
        intro _
        have hy := Option.some.inj hm
        subst hy
        refine GS.ret (fn := Tryz.f82) [0] [vI (-1)] [] rfl Tryz.func82 (by kernel_rfl) trivial (fun w' hs => ?_)
        exact ⟨(),rfl,hs.turnedG (ks := []) rfl rfl⟩
      · replace hm := br_f c hm
        refine GS.skip ?_
        refine GS.seq ?_
        refine GS.seq ?_
        refine GS.tzM (fun _ => [(19,.bool (!(Op.bytesLess a0.toList a1.toList || a0.toList == a1.toList)))]) [] ?_
        intro _
        refine GS.cond (t := !(Op.bytesLess a0.toList a1.toList || a0.toList == a1.toList)) rfl rfl (fun d => ?_) (fun d => ?_)
        · replace hm := br_t d hm
          refine GS.seq ?_
          refine GS.tzM (fun _ => [(4,vI 1)]) [] ?_
          intro _
          have hy := Option.some.inj hm
          subst hy
          refine GS.ret (fn := Tryz.f82) [0] [vI 1] [] rfl Tryz.func82 (by kernel_rfl) trivial (fun w' hs => ?_)
          exact ⟨(),rfl,hs.turnedG (ks := []) rfl rfl⟩
        · replace hm := br_f d hm
          refine GS.skip ?_
          refine GS.seq ?_
          refine GS.tzM (fun _ => [(4,vI 0)]) [] ?_
          intro _
          have hy := Option.some.inj hm
          subst hy
          refine GS.ret (fn := Tryz.f82) [0] [vI 0] [] rfl Tryz.func82 (by kernel_rfl) trivial (fun w' hs => ?_)
          exact ⟨(),rfl,hs.turnedG (ks := []) rfl rfl⟩

theorem w_pglog_look_api_Item_string__1 (F : Nat) (a0 : S_api_Item) (a1 : ByteArray) (a : Nat) {y : Int} (hm : m_pglog_look_api_Item_string__1 F a0 a1 = some y) : CallG Tryz.prog 81 #[.agg ((kc3 a0.Name a0.Version.Epoch a0.Version.N a0.Crc)).toArray,.string a1,pA a 0] (X := Unit) (fun (_ : Unit) => vI y) [] [.rd (some ⟨a,0,none⟩) 1 [[.func (.func 56) #[] #[]]]] (fun (_ : Unit) => []) := by
  intro w hg
  rw [m_pglog_look_api_Item_string__1] at hm
  refine GS.start (S := mayT [] [.rd (some ⟨a,0,none⟩) 1 [[.func (.func 56) #[] #[]]]]) (mem := [(1,.rd (some ⟨a,0,none⟩) 1 [[.func (.func 56) #[] #[]]])]) Tryz.func81 rfl Tryz.ntmps81 (Nat.le_of_ble_eq_true rfl) (hg.start rfl) ?_
  refine GS.conv (env' := [(0,.agg ((kc3 a0.Name a0.Version.Epoch a0.Version.N a0.Crc)).toArray),(1,.string a1),(2,pA a 0)]) rfl rfl ?_
  refine GS.seq ?_
  refine GS.tz (fun b => [(1,.string a1),(2,pA a 0),(3,pA ((b 0).x) 0)]) (fun b => [(1,.rd (some ⟨a,0,none⟩) 1 [[.func (.func 56) #[] #[]]]),(2,.cells ((b 0).x) 91 (kc3 a0.Name a0.Version.Epoch a0.Version.N a0.Crc))]) [(0,{ act := .new .var,key := some 2 })] ?_
  intro b
  refine GS.seq ?_
  refine bnd_elim hm (fun y3 e4 hm => ?_)
  refine bnd_elim hm (fun y5 e6 hm => ?_)
  refine GS.tg (fun _ => [(5,vI y5)]) (fun _ => []) [(0,{ act := .load 1 0 0 [.func (.func 56) #[] #[]] }),(1,{ act := .load 2 0 0 [] }),(2,{ act := .call [] (.string y3) }),(4,{ act := .call [] (vI y5) })] (fun _ => [a = blk (some ⟨a,0,none⟩),0 = offs (some ⟨a,0,none⟩) + (0 * 1 + 0),([[.func (.func 56) #[] #[]]] : List (List Value))[0]? = some [.func (.func 56) #[] #[]],(b 0).x = (b 0).x,CallOK Tryz.prog 56 #[.agg ((kc3 a0.Name a0.Version.Epoch a0.Version.N a0.Crc)).toArray] (.string y3) [],CallOK Tryz.prog 82 #[.string y3,.string a1] (vI y5) []]) (fun _ => ⟨rfl,rfl,rfl,rfl,(by have h1 := w_pglog_itemName F a0 e4; exact h1.ok trivial),(by have h1 := w_cmp_Compare_string_ F y3 a1 e6; exact h1.ok trivial),trivial⟩) ?_
  intro _
  have hy := Option.some.inj hm
  subst hy
  refine GS.ret (fn := Tryz.f81) [0] [vI y5] [] rfl Tryz.func81 (by kernel_rfl) trivial (fun w' hs => ?_)
  exact ⟨(),rfl,hs.turnedG (ks := []) rfl rfl⟩

end Go.Proofs.YtjnbkhnebmlilaaGreat
