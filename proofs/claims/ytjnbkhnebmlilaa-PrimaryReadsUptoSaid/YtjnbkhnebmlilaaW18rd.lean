/-
 CHAPTER 18r: the functions do what their models say (4).
-/
import Derived.Test.YtjnbkhnebmlilaaE18r
import Derived.Test.YtjnbkhnebmlilaaW18ra
import Derived.Test.YtjnbkhnebmlilaaW18rc
set_option linter.unusedVariables false
set_option linter.unusedSimpArgs false
set_option maxRecDepth 100000
set_option maxHeartbeats 8000000
namespace Go.Proofs.Ytjnbkhnebmlilaa
open Go Go.RowKit Sx

theorem w___primary_Machine__begin (F n : Nat) (f : Option Addr) (o : Nat) (l : Option Addr) (r : Nat) (j : Option Addr) (p : Nat) (k : Option Addr) (q : Nat) (e : Option Addr) (d : Nat) (b : Option Addr) (c : Nat) (Y : 1 ≤ d) {y : Int × Int} (hm : m___primary_Machine__begin F = some y) : CallG Try.prog 27 #[pA n 0,.agg ((kc9)).toArray] (X := Option Addr × Nat × Option Addr × Nat × Option Addr × Nat × Option Addr × Nat × Nat × Option Addr × Nat × Option Addr × Nat × Option Addr × Nat × Option Addr × Nat × Option Addr × Nat × Option Addr × Nat × Option Addr × Nat × Option Addr × Nat) (fun ⟨x0,x1,x2,x3,x4,x5,x6,x7,x8,x9,Z,B,C,D,E,G,H,I,J,K,L,M,s,u,z⟩ => .agg ((kc33 D E G H I J K L M s)).toArray) [.cells n 69 (kc10 f o l r j p k q e d)] [.rd f 1 [[vI 1]],.rd l 7 [],.rd j 5 [],.rd k 4 [],.rd b 1 [[.int .u8 120]],.rd e 46 [(kc8 b c)]] (fun ⟨x0,x1,x2,x3,x4,x5,x6,x7,x8,x9,Z,B,C,D,E,G,H,I,J,K,L,M,s,u,z⟩ => [.cells n 69 (kc25 f o x0 x1 x2 x3 x4 x5 x6 x7 x8),.osl x0 x1 52 7 [(kc15)],.osl x2 x3 80 5 [(kc20)],.osl x4 x5 76 4 [(kc22 y.1)],.cells x8 87 (kc18 b c x9 Z B C),.osl x9 Z 5 1 [[.int .u8 120]],.osl B C 3 1 [[vI 1]],.osl D E 52 7 [(kc15)],.osl G H 80 5 [(kc20)],.osl I J 76 4 [(kc22 y.2)],.osl K L 5 1 [[.int .u8 120]],.osl M s 57 46 [(kc32 u z)],.osl u z 5 1 [[.int .u8 120]]]) := by
 intro w hg
 rw [m___primary_Machine__begin] at hm
 refine GS.start (S := mayT [.cells n 69 (kc10 f o l r j p k q e d)] [.rd f 1 [[vI 1]],.rd l 7 [],.rd j 5 [],.rd k 4 [],.rd b 1 [[.int .u8 120]],.rd e 46 [(kc8 b c)]]) (mem := [(1,.cells n 69 (kc10 f o l r j p k q e d)),(2,.rd f 1 [[vI 1]]),(3,.rd l 7 []),(4,.rd j 5 []),(5,.rd k 4 []),(6,.rd b 1 [[.int .u8 120]]),(7,.rd e 46 [(kc8 b c)])]) Try.func27 rfl Try.ntmps27 (Nat.le_of_ble_eq_true rfl) (hg.start rfl) ?_
 refine GS.conv (env' := [(0,pA n 0),(1,.agg ((kc9)).toArray)]) rfl rfl ?_
 refine GS.seq ?_
 refine GS.tz (fun m => [(0,pA n 0),(3,pA ((m 0).x) 0),(4,pA ((m 1).x) 0)]) (fun m => [(1,.cells n 69 (kc10 f o l r j p k q e d)),(2,.rd f 1 [[vI 1]]),(3,.rd l 7 []),(4,.rd j 5 []),(5,.rd k 4 []),(6,.rd b 1 [[.int .u8 120]]),(7,.rd e 46 [(kc8 b c)]),(8,.cells ((m 0).x) 60 (kc9)),(9,.cells ((m 1).x) 60 (kc9))]) [(0,{ act := .new .var,key := some 8 }),(1,{ act := .new .var,key := some 9 })] ?_
 intro m
 refine GS.seq ?_
 refine GS.block ?_
 refine GS.loop ?_
 refine GS.seq ?_
 refine GS.seq ?_
 refine GS.tgM (fun _ => [(0,pA n 0),(3,pA ((m 0).x) 0),(4,pA ((m 1).x) 0),(35,.bool true)]) [(3,{ act := .load 1 0 0 [] }),(9,{ act := .load 1 0 0 [] }),(16,{ act := .load 1 0 0 [] }),(22,{ act := .load 8 0 0 [] }),(27,{ act := .load 8 0 0 [] })] (fun _ => [n = n,n = n,n = n,(m 0).x = (m 0).x,(m 0).x = (m 0).x]) (fun _ => ⟨rfl,rfl,rfl,rfl,rfl,trivial⟩) ?_
 intro _
 refine GS.cond (t := true) rfl rfl (fun _ => ?_) (fun hf => by cases hf)
 refine GS.skip ?_
 refine GS.block ?_
 refine GS.seq ?_
 refine GS.tg (fun A => [(0,pA n 0),(3,pA ((m 0).x) 0),(4,pA ((m 1).x) 0),(5,pA ((A 6).x) 0)]) (fun A => [(1,.cells n 69 (kc10 f o l r j p k q e d)),(2,.rd f 1 [[vI 1]]),(3,.rd l 7 []),(4,.rd j 5 []),(5,.rd k 4 []),(6,.rd b 1 [[.int .u8 120]]),(7,.rd e 46 [(kc8 b c)]),(8,.cells ((m 0).x) 60 (kc9)),(9,.cells ((m 1).x) 60 (kc9)),(10,.cells ((A 6).x) 57 (kc8 b c))]) [(3,{ act := .load 1 0 0 [] }),(4,{ act := .idx 7 0 }),(5,{ act := .load 7 0 0 [vI 30,vI 3,vI 0,vI 2,vI 0,vI 0,vI 0,vI 1,vI 0,vI 5,vI 1,vI 0,.slice none 0 0,.slice none 0 0,.slice none 0 0,vI 0,vI 0,vI 0,vI 0,vI 0,vI 0,vI 0,vI 0,vI 0,.slice none 0 0,.slice none 0 0,.slice none 0 0,vI 0,vI 0,.bool false,vI 0,.string (ByteArray.mk #[]),vI 0,vI 0,.string (ByteArray.mk #[]),vI 0,vI 0,.slice none 0 0,vI 2,.string (ByteArray.mk #[97]),.slice b 1 c,vI 0,vI 0,.slice none 0 0,.slice none 0 0,vI 0] }),(6,{ act := .new .var,key := some 10 }),(7,{ act := .store 0 0 [],key := some 10 })] (fun A => [n = n,e = e,1 = ([(kc8 b c)] : List (List Value)).length,(0 : Int) = (0 : Int),0 < 1,blk e = blk e,offs e + 0 * 46 = offs e + (0 * 46 + 0),([(kc8 b c)] : List (List Value))[0]? = some [vI 30,vI 3,vI 0,vI 2,vI 0,vI 0,vI 0,vI 1,vI 0,vI 5,vI 1,vI 0,.slice none 0 0,.slice none 0 0,.slice none 0 0,vI 0,vI 0,vI 0,vI 0,vI 0,vI 0,vI 0,vI 0,vI 0,.slice none 0 0,.slice none 0 0,.slice none 0 0,vI 0,vI 0,.bool false,vI 0,.string (ByteArray.mk #[]),vI 0,vI 0,.string (ByteArray.mk #[]),vI 0,vI 0,.slice none 0 0,vI 2,.string (ByteArray.mk #[97]),.slice b 1 c,vI 0,vI 0,.slice none 0 0,.slice none 0 0,vI 0],(A 6).x = (A 6).x,oC (.agg ((kc8 b c)).toArray)]) (fun A => ⟨rfl,rfl,rfl,rfl,(Nat.le_of_ble_eq_true rfl),rfl,rfl,rfl,rfl,rfl,trivial⟩) ?_
 intro A
 refine GS.seq ?_
 refine GS.open_ ?_
 refine GR.rM (i := 0) 8 (env' := fun _ => [(0,pA n 0),(3,pA ((m 0).x) 0),(4,pA ((m 1).x) 0),(5,pA ((A 6).x) 0),(47,.slice (cutOb e 1 d 46) 0 (d - 1)),(49,pA n 12)]) (by kernel_rfl) (RunsTo.mk [(4,{ act := .load 1 0 0 [] }),(5,{ act := .cut 1 1 d,sp := some (.slice (cutOb e 1 d 46) 0 (d - 1)) })] [0,3,4,5,47,49] [1,2,3,4,5,6,7,8,9,10] (fun _ => [n = n,1 = (1 : Int),1 = 1,d = d,1 ≤ 1,1 ≤ d,d ≤ d,(none : Option Operand) = none → (none : Option Operand) = none,((.slice (if d = 1 then e else (e).map (fun a => a.add (1 * 46))) (1 - 1) (d - 1)) : Value) = .slice (cutOb e 1 d 46) 0 (d - 1)]) (fun _ => by kernel_rfl) (fun _ => ⟨rfl,rfl,rfl,rfl,(Nat.le_of_ble_eq_true rfl),Y,(Nat.le_refl _),(by intro h; first | rfl | cases h),rfl,trivial⟩)) ?_
 intro _
 refine GR.setMem (mem' := [(1,.cells n 69 (kc10 f o l r j p k q e d)),(2,.rd f 1 [[vI 1]]),(3,.rd l 7 []),(4,.rd j 5 []),(5,.rd k 4 []),(6,.rd b 1 [[.int .u8 120]]),(7,.rd e 46 [(kc8 b c)]),(8,.cells ((m 0).x) 60 (kc9)),(9,.cells ((m 1).x) 60 (kc9)),(10,.cells ((A 6).x) 57 (kc8 b c)),(11,.rd (cutOb e 1 d 46) 46 (((([(kc8 b c)] : List (List Value))).drop 1).take (1 - 1)))]) (fun w hw => Sat.addCov (k0 := 7) hw rfl rfl rfl (rd_cut (Nat.le_of_ble_eq_true rfl) Y) rfl) ?_
 refine GR.conv (mem' := [(1,.cells n 69 (kc10 f o l r j p k q e d)),(2,.rd f 1 [[vI 1]]),(3,.rd l 7 []),(4,.rd j 5 []),(5,.rd k 4 []),(6,.rd b 1 [[.int .u8 120]]),(7,.rd e 46 [(kc8 b c)]),(8,.cells ((m 0).x) 60 (kc9)),(9,.cells ((m 1).x) 60 (kc9)),(10,.cells ((A 6).x) 57 (kc8 b c)),(11,.rd (cutOb e 1 d 46) 46 [])]) rfl (congrArg (fun rr : List (List Value) => ([(1,.cells n 69 (kc10 f o l r j p k q e d)),(2,.rd f 1 [[vI 1]]),(3,.rd l 7 []),(4,.rd j 5 []),(5,.rd k 4 []),(6,.rd b 1 [[.int .u8 120]]),(7,.rd e 46 [(kc8 b c)]),(8,.cells ((m 0).x) 60 (kc9)),(9,.cells ((m 1).x) 60 (kc9)),(10,.cells ((A 6).x) 57 (kc8 b c)),(11,.rd (cutOb e 1 d 46) 46 rr)] : List (Nat × Ent))) (show ((([(kc8 b c)] : List (List Value))).drop 1).take (1 - 1) = ([] : List (List Value)) from rfl)) ?_
 refine GR.ru (i := 8) 1 (env' := fun _ => [(0,pA n 0),(3,pA ((m 0).x) 0),(4,pA ((m 1).x) 0),(5,pA ((A 6).x) 0)]) (mem' := fun _ => [(1,.cells n 69 (kc11 f o l r j p k q (cutOb e 1 d 46) (d - 1))),(2,.rd f 1 [[vI 1]]),(3,.rd l 7 []),(4,.rd j 5 []),(5,.rd k 4 []),(6,.rd b 1 [[.int .u8 120]]),(8,.cells ((m 0).x) 60 (kc9)),(9,.cells ((m 1).x) 60 (kc9)),(10,.cells ((A 6).x) 57 (kc8 b c)),(11,.rd (cutOb e 1 d 46) 46 [])]) (by kernel_rfl) (RunsTo.mk [(8,{ act := .store 0 0 [],key := some 1 })] [0,3,4,5] [1,2,3,4,5,6,8,9,10,11] (fun _ => [n = n,oC (.slice (cutOb e 1 d 46) 0 (d - 1))]) (fun _ => by kernel_rfl) (fun _ => ⟨rfl,rfl,trivial⟩)) ?_
 intro _
 refine GR.dn (by kernel_rfl) ?_
 refine GS.seq ?_
 refine GS.tgM (fun _ => [(0,pA n 0),(3,pA ((m 0).x) 0),(4,pA ((m 1).x) 0),(5,pA ((A 6).x) 0),(52,vI 2)]) [(2,{ act := .load 10 0 0 [] })] (fun _ => [(A 6).x = (A 6).x]) (fun _ => ⟨rfl,trivial⟩) ?_
 intro _
 refine GS.block ?_
 refine GS.seq ?_
 refine GS.seq ?_
 refine GS.tzM (fun _ => [(0,pA n 0),(3,pA ((m 0).x) 0),(4,pA ((m 1).x) 0),(5,pA ((A 6).x) 0),(52,vI 2),(62,.bool true)]) [] ?_
 intro _
 refine GS.cond (t := true) rfl rfl (fun _ => ?_) (fun hf => by cases hf)
 refine GS.skip ?_
 refine GS.cond (t := true) rfl rfl (fun _ => ?_) (fun hf => by cases hf)
 refine bnd_elim hm (fun y9 aa hm => ?_)
 refine GS.open_ ?_
 refine GR.ru (i := 0) 3 (env' := fun _ => [(0,pA n 0),(3,pA ((m 0).x) 0),(4,pA ((m 1).x) 0),(66,pA n 0),(67,.agg ((kc8 b c)).toArray),(68,.agg ((kc9)).toArray)]) (mem' := fun _ => [(1,.cells n 69 (kc11 f o l r j p k q (cutOb e 1 d 46) (d - 1))),(2,.rd f 1 [[vI 1]]),(3,.rd l 7 []),(4,.rd j 5 []),(5,.rd k 4 []),(6,.rd b 1 [[.int .u8 120]]),(8,.cells ((m 0).x) 60 (kc9)),(9,.cells ((m 1).x) 60 (kc9)),(11,.rd (cutOb e 1 d 46) 46 [])]) (by kernel_rfl) (RunsTo.mk [(1,{ act := .load 10 0 0 [] }),(2,{ act := .load 8 0 0 [] })] [0,3,4,66,67,68] [1,2,3,4,5,6,8,9,11] (fun _ => [(A 6).x = (A 6).x,(m 0).x = (m 0).x]) (fun _ => by kernel_rfl) (fun _ => ⟨rfl,rfl,trivial⟩)) ?_
 intro _
 refine GR.callG (X := Option Addr × Nat × Option Addr × Nat × Option Addr × Nat × Nat × Option Addr × Nat × Option Addr × Nat × Option Addr × Nat × Option Addr × Nat × Option Addr × Nat × Option Addr × Nat × Option Addr × Nat × Option Addr × Nat) (i := 3) (g := 33) (args := #[pA n 0,.agg ((kc8 b c)).toArray,.agg ((kc9)).toArray]) (v := fun ⟨B,C,D,E,G,H,I,J,K,L,M,s,u,z,N,O,P,Q,R,T,U,V,W⟩ => .agg ((kc33 s u z N O P Q R T U)).toArray) (own := [.cells n 69 (kc11 f o l r j p k q (cutOb e 1 d 46) (d - 1))]) (ro := [.rd f 1 [[vI 1]],.rd l 7 [],.rd j 5 [],.rd k 4 [],.rd (cutOb e 1 d 46) 46 [],.rd b 1 [[.int .u8 120]]]) (es' := fun ⟨B,C,D,E,G,H,I,J,K,L,M,s,u,z,N,O,P,Q,R,T,U,V,W⟩ => [.cells n 69 (kc25 f o B C D E G H (cutOb e 1 d 46) (d - 1) I),.osl B C 52 7 [(kc15)],.osl D E 80 5 [(kc20)],.osl G H 76 4 [(kc22 y9.1)],.cells I 87 (kc18 b c J K L M),.osl J K 5 1 [[.int .u8 120]],.osl L M 3 1 [[vI 1]],.osl s u 52 7 [(kc15)],.osl z N 80 5 [(kc20)],.osl O P 76 4 [(kc22 y9.2)],.osl Q R 5 1 [[.int .u8 120]],.osl T U 57 46 [(kc32 V W)],.osl V W 5 1 [[.int .u8 120]]]) (mem' := fun ⟨B,C,D,E,G,H,I,J,K,L,M,s,u,z,N,O,P,Q,R,T,U,V,W⟩ => [(1,.cells n 69 (kc25 f o B C D E G H (cutOb e 1 d 46) (d - 1) I)),(2,.rd f 1 [[vI 1]]),(3,.rd l 7 []),(4,.rd j 5 []),(5,.rd k 4 []),(6,.rd b 1 [[.int .u8 120]]),(8,.cells ((m 0).x) 60 (kc9)),(9,.cells ((m 1).x) 60 (kc9)),(11,.rd (cutOb e 1 d 46) 46 []),(12,.osl B C 52 7 [(kc15)]),(13,.osl D E 80 5 [(kc20)]),(14,.osl G H 76 4 [(kc22 y9.1)]),(15,.cells I 87 (kc18 b c J K L M)),(16,.osl J K 5 1 [[.int .u8 120]]),(17,.osl L M 3 1 [[vI 1]]),(18,.osl s u 52 7 [(kc15)]),(19,.osl z N 80 5 [(kc20)]),(20,.osl O P 76 4 [(kc22 y9.2)]),(21,.osl Q R 5 1 [[.int .u8 120]]),(22,.osl T U 57 46 [(kc32 V W)]),(23,.osl V W 5 1 [[.int .u8 120]])]) (env' := fun ⟨B,C,D,E,G,H,I,J,K,L,M,s,u,z,N,O,P,Q,R,T,U,V,W⟩ => [(0,pA n 0),(3,pA ((m 0).x) 0),(4,pA ((m 1).x) 0),(69,.agg ((kc33 s u z N O P Q R T U)).toArray)]) [1] [1,12,13,14,15,16,17,18,19,20,21,22,23] [0,3,4,69] [1,2,3,4,5,6,8,9,11,12,13,14,15,16,17,18,19,20,21,22,23] false (by kernel_rfl) (by kernel_rfl) (by kernel_rfl) (by kernel_rfl) (by kernel_rfl) (fun _ => rfl) (fun _ _ => rfl) ⟨(.inl ⟨2,_,rfl,rfl,Cov.refl _,fun h => by cases h⟩),(.inl ⟨3,_,rfl,rfl,Cov.refl _,fun h => by cases h⟩),(.inl ⟨4,_,rfl,rfl,Cov.refl _,fun h => by cases h⟩),(.inl ⟨5,_,rfl,rfl,Cov.refl _,fun h => by cases h⟩),(.inl ⟨11,_,rfl,rfl,Cov.refl _,fun h => by cases h⟩),(.inl ⟨6,_,rfl,rfl,Cov.refl _,fun h => by cases h⟩),trivial⟩ (by rintro ⟨B,C,D,E,G,H,I,J,K,L,M,s,u,z,N,O,P,Q,R,T,U,V,W⟩; kernel_rfl) (by rintro ⟨B,C,D,E,G,H,I,J,K,L,M,s,u,z,N,O,P,Q,R,T,U,V,W⟩; kernel_rfl) ((by have h1 := w___primary_Machine__write F n f o l r j p k q (cutOb e 1 d 46) (d - 1) b c aa; exact h1)) ?_
 rintro ⟨B,C,D,E,G,H,I,J,K,L,M,s,u,z,N,O,P,Q,R,T,U,V,W⟩
 refine GR.ru (i := 4) 1 (env' := fun _ => [(0,pA n 0),(3,pA ((m 0).x) 0),(4,pA ((m 1).x) 0)]) (mem' := fun _ => [(1,.cells n 69 (kc25 f o B C D E G H (cutOb e 1 d 46) (d - 1) I)),(2,.rd f 1 [[vI 1]]),(6,.rd b 1 [[.int .u8 120]]),(8,.cells ((m 0).x) 60 (kc33 s u z N O P Q R T U)),(9,.cells ((m 1).x) 60 (kc9)),(11,.rd (cutOb e 1 d 46) 46 []),(12,.osl B C 52 7 [(kc15)]),(13,.osl D E 80 5 [(kc20)]),(14,.osl G H 76 4 [(kc22 y9.1)]),(15,.cells I 87 (kc18 b c J K L M)),(16,.osl J K 5 1 [[.int .u8 120]]),(17,.osl L M 3 1 [[vI 1]]),(18,.osl s u 52 7 [(kc15)]),(19,.osl z N 80 5 [(kc20)]),(20,.osl O P 76 4 [(kc22 y9.2)]),(21,.osl Q R 5 1 [[.int .u8 120]]),(22,.osl T U 57 46 [(kc32 V W)]),(23,.osl V W 5 1 [[.int .u8 120]])]) (by kernel_rfl) (RunsTo.mk [(4,{ act := .store 0 0 [],key := some 8 })] [0,3,4] [1,2,6,8,9,11,12,13,14,15,16,17,18,19,20,21,22,23] (fun _ => [(m 0).x = (m 0).x,oC (.agg ((kc33 s u z N O P Q R T U)).toArray)]) (fun _ => by kernel_rfl) (fun _ => ⟨rfl,rfl,trivial⟩)) ?_
 intro _
 refine GR.dn (by kernel_rfl) ?_
 refine GS.inBlock ?_
 refine GS.inBlock ?_
 refine GS.inLoop ?_
 refine GS.seq ?_
 refine GS.seq ?_
 refine GS.tgM (fun _ => [(0,pA n 0),(3,pA ((m 0).x) 0),(4,pA ((m 1).x) 0),(35,.bool false)]) [(3,{ act := .load 1 0 0 [] })] (fun _ => [n = n]) (fun _ => ⟨rfl,trivial⟩) ?_
 intro _
 refine GS.cond (t := false) rfl rfl (fun hf => by cases hf) (fun _ => ?_)
 refine GS.exit rfl ?_
 refine GS.seq ?_
 refine GS.tg (fun _ => [(4,pA ((m 1).x) 0)]) (fun _ => [(1,.cells n 69 (kc25 f o B C D E G H (cutOb e 1 d 46) (d - 1) I)),(2,.rd f 1 [[vI 1]]),(6,.rd b 1 [[.int .u8 120]]),(9,.cells ((m 1).x) 60 (kc33 s u z N O P Q R T U)),(11,.rd (cutOb e 1 d 46) 46 []),(12,.osl B C 52 7 [(kc15)]),(13,.osl D E 80 5 [(kc20)]),(14,.osl G H 76 4 [(kc22 y9.1)]),(15,.cells I 87 (kc18 b c J K L M)),(16,.osl J K 5 1 [[.int .u8 120]]),(17,.osl L M 3 1 [[vI 1]]),(18,.osl s u 52 7 [(kc15)]),(19,.osl z N 80 5 [(kc20)]),(20,.osl O P 76 4 [(kc22 y9.2)]),(21,.osl Q R 5 1 [[.int .u8 120]]),(22,.osl T U 57 46 [(kc32 V W)]),(23,.osl V W 5 1 [[.int .u8 120]])]) [(0,{ act := .load 8 0 0 [] }),(1,{ act := .store 0 0 [],key := some 9 })] (fun _ => [(m 0).x = (m 0).x,(m 1).x = (m 1).x,oC (.agg ((kc33 s u z N O P Q R T U)).toArray)]) (fun _ => ⟨rfl,rfl,rfl,trivial⟩) ?_
 intro _
 have hy := Option.some.inj hm
 subst hy
 refine GS.ret (fn := Try.f27) [9] [.agg ((kc33 s u z N O P Q R T U)).toArray] [(m 1).x = (m 1).x] rfl Try.func27 (by kernel_rfl) ⟨rfl,trivial⟩ (fun w' hs => ?_)
 exact ⟨⟨B,C,D,E,G,H,(cutOb e 1 d 46),(d - 1),I,J,K,L,M,s,u,z,N,O,P,Q,R,T,U,V,W⟩,rfl,hs.turnedG (ks := [1,12,13,14,15,16,17,18,19,20,21,22,23]) rfl rfl⟩

theorem w___primary_Machine__request (F m : Nat) (a : Option Addr) (l : Nat) (d : Option Addr) (u : Nat) (b : Option Addr) (q : Nat) (c : Option Addr) (r : Nat) (e : Option Addr) (s : Nat) {y : Int × Int} (hm : m___primary_Machine__request F = some y) : CallG Try.prog 12 #[pA m 0,.agg ((kc8 e s)).toArray] (X := Option Addr × Nat × Option Addr × Nat × Option Addr × Nat × Option Addr × Nat × Nat × Option Addr × Nat × Option Addr × Nat × Option Addr × Nat × Option Addr × Nat × Option Addr × Nat × Option Addr × Nat × Option Addr × Nat × Option Addr × Nat × Option Addr × Nat) (fun ⟨x0,x1,x2,x3,x4,x5,x6,x7,x8,x9,ac,n,o,ad,ae,af,ag,ah,ai,aj,z,A,B,C,D,E,Q⟩ => .agg ((kc33 af ag ah ai aj z A B C D)).toArray) [.cells m 69 (kc6 a l d u b q c r)] [.rd a 1 [[vI 1]],.rd d 7 [],.rd b 5 [],.rd c 4 [],.rd e 1 [[.int .u8 120]]] (fun ⟨x0,x1,x2,x3,x4,x5,x6,x7,x8,x9,ac,n,o,ad,ae,af,ag,ah,ai,aj,z,A,B,C,D,E,Q⟩ => [.cells m 69 (kc25 a l x0 x1 x2 x3 x4 x5 x6 x7 x8),.osl x0 x1 52 7 [(kc15)],.osl x2 x3 80 5 [(kc20)],.osl x4 x5 76 4 [(kc22 y.1)],.cells x8 87 (kc18 x9 ac n o ad ae),.osl x9 ac 5 1 [[.int .u8 120]],.osl n o 5 1 [[.int .u8 120]],.osl ad ae 3 1 [[vI 1]],.osl af ag 52 7 [(kc15)],.osl ah ai 80 5 [(kc20)],.osl aj z 76 4 [(kc22 y.2)],.osl A B 5 1 [[.int .u8 120]],.osl C D 57 46 [(kc32 E Q)],.osl E Q 5 1 [[.int .u8 120]]]) := by
 intro w hg
 rw [m___primary_Machine__request] at hm
 refine GS.start (S := mayT [.cells m 69 (kc6 a l d u b q c r)] [.rd a 1 [[vI 1]],.rd d 7 [],.rd b 5 [],.rd c 4 [],.rd e 1 [[.int .u8 120]]]) (mem := [(1,.cells m 69 (kc6 a l d u b q c r)),(2,.rd a 1 [[vI 1]]),(3,.rd d 7 []),(4,.rd b 5 []),(5,.rd c 4 []),(6,.rd e 1 [[.int .u8 120]])]) Try.func12 rfl Try.ntmps12 (Nat.le_of_ble_eq_true rfl) (hg.start rfl) ?_
 refine GS.conv (env' := [(0,pA m 0),(1,.agg ((kc8 e s)).toArray)]) rfl rfl ?_
 refine GS.seq ?_
 refine GS.tz (fun k => [(0,pA m 0),(3,pA ((k 0).x) 0),(4,pA ((k 1).x) 0)]) (fun k => [(1,.cells m 69 (kc6 a l d u b q c r)),(2,.rd a 1 [[vI 1]]),(3,.rd d 7 []),(4,.rd b 5 []),(5,.rd c 4 []),(6,.rd e 1 [[.int .u8 120]]),(7,.cells ((k 0).x) 57 (kc8 e s)),(8,.cells ((k 1).x) 60 (kc9))]) [(0,{ act := .new .var,key := some 7 }),(1,{ act := .new .var,key := some 8 })] ?_
 intro k
 refine GS.seq ?_
 refine GS.tzM (fun _ => [(0,pA m 0),(3,pA ((k 0).x) 0),(4,pA ((k 1).x) 0),(5,.func (.func 22) #[] #[pA ((k 0).x) 0])]) [] ?_
 intro _
 refine GS.seq ?_
 refine GS.block ?_
 refine GS.seq ?_
 refine GS.tgM (fun _ => [(0,pA m 0),(3,pA ((k 0).x) 0),(4,pA ((k 1).x) 0),(5,.func (.func 22) #[] #[pA ((k 0).x) 0]),(7,.bool false)]) [(3,{ act := .load 1 0 0 [] })] (fun _ => [m = m]) (fun _ => ⟨rfl,trivial⟩) ?_
 intro _
 refine GS.cond (t := false) rfl rfl (fun hf => by cases hf) (fun _ => ?_)
 refine GS.seq ?_
 refine GS.seq ?_
 refine GS.rM (env' := fun _ => [(0,pA m 0),(3,pA ((k 0).x) 0),(4,pA ((k 1).x) 0),(5,.func (.func 22) #[] #[pA ((k 0).x) 0]),(20,.bool false)]) (RunsTo.mkd [(3,{ act := .load 1 0 0 [] })] [0,3,4,5,20] [1,2,3,4,5,6,7,8] (fun _ => [m = m]) (by kernel_rfl) (by kernel_rfl) (fun _ => by kernel_rfl) (fun _ => ⟨rfl,trivial⟩)) ?_
 intro _
 refine GS.cond (t := false) rfl rfl (fun hf => by cases hf) (fun _ => ?_)
 refine bnd_elim hm (fun y6 e7 hm => ?_)
 refine GS.tgM (fun _ => [(0,pA m 0),(3,pA ((k 0).x) 0),(4,pA ((k 1).x) 0),(20,.bool false)]) [(3,{ act := .load 1 0 0 [] }),(5,{ act := .call [6,7] (.bool false) })] (fun _ => [m = m,CallOK Try.prog 25 #[.slice none 0 0,.func (.func 22) #[] #[pA ((k 0).x) 0]] (.bool false) [some (.rd e 1 [[.int .u8 120]]),some (.cells ((k 0).x) 57 (kc8 e s))]]) (fun _ => ⟨rfl,(by have h1 := w_slices_ContainsFunc___api_Msg_api_Msg_ F (k 0).x e s e7; exact h1.ok ⟨(.inl ⟨.rd e 1 [[.int .u8 120]],.head _,Cov.refl _⟩),(.inl ⟨.cells ((k 0).x) 57 (kc8 e s),(.tail _ (.head _)),Cov.cells_rd⟩),trivial⟩),trivial⟩) ?_
 intro _
 refine GS.cond (t := false) rfl rfl (fun hf => by cases hf) (fun _ => ?_)
 refine GS.skip ?_
 refine GS.inBlock ?_
 refine GS.seq ?_
 refine bnd_elim hm (fun y9 ak hm => ?_)
 refine GS.open_ ?_
 refine GR.rM (i := 0) 3 (env' := fun _ => [(0,pA m 0),(3,pA ((k 0).x) 0),(4,pA ((k 1).x) 0),(46,.slice e 1 s)]) (by kernel_rfl) (RunsTo.mk [(2,{ act := .load 7 0 0 [] })] [0,3,4,46] [1,2,3,4,5,6,7,8] (fun _ => [(k 0).x = (k 0).x]) (fun _ => by kernel_rfl) (fun _ => ⟨rfl,trivial⟩)) ?_
 intro _
 refine GR.callG (X := Option Addr × Nat) (i := 3) (g := 26) (args := #[.slice e 1 s]) (v := fun ⟨n,o⟩ => .slice n 1 o) (own := []) (ro := [.rd e 1 [[.int .u8 120]]]) (es' := fun ⟨n,o⟩ => [.osl n o 5 1 [[.int .u8 120]]]) (mem' := fun ⟨n,o⟩ => [(1,.cells m 69 (kc6 a l d u b q c r)),(2,.rd a 1 [[vI 1]]),(3,.rd d 7 []),(4,.rd b 5 []),(5,.rd c 4 []),(6,.rd e 1 [[.int .u8 120]]),(7,.cells ((k 0).x) 57 (kc8 e s)),(8,.cells ((k 1).x) 60 (kc9)),(9,.osl n o 5 1 [[.int .u8 120]])]) (env' := fun ⟨n,o⟩ => [(0,pA m 0),(3,pA ((k 0).x) 0),(4,pA ((k 1).x) 0),(47,.slice n 1 o)]) [] [9] [0,3,4,47] [1,2,3,4,5,6,7,8,9] false (by kernel_rfl) (by kernel_rfl) (by kernel_rfl) (by kernel_rfl) (by kernel_rfl) (fun _ => rfl) (fun _ _ => rfl) ⟨(.inl ⟨6,_,rfl,rfl,Cov.refl _,fun h => by cases h⟩),trivial⟩ (by rintro ⟨n,o⟩; kernel_rfl) (by rintro ⟨n,o⟩; kernel_rfl) ((by have h1 := w_slices_Clone___byte_byte_ F e s ak; exact h1)) ?_
 rintro ⟨n,o⟩
 refine GR.ru (i := 4) 3 (env' := fun _ => [(0,pA m 0),(3,pA ((k 0).x) 0),(4,pA ((k 1).x) 0)]) (mem' := fun _ => [(1,.cells m 69 (kc6 a l d u b q c r)),(2,.rd a 1 [[vI 1]]),(3,.rd d 7 []),(4,.rd b 5 []),(5,.rd c 4 []),(7,.cells ((k 0).x) 57 (kc8 n o)),(8,.cells ((k 1).x) 60 (kc9)),(9,.osl n o 5 1 [[.int .u8 120]])]) (by kernel_rfl) (RunsTo.mk [(6,{ act := .store 0 0 [],key := some 7 })] [0,3,4] [1,2,3,4,5,7,8,9] (fun _ => [(k 0).x = (k 0).x,oC (.slice n 1 o)]) (fun _ => by kernel_rfl) (fun _ => ⟨rfl,rfl,trivial⟩)) ?_
 intro _
 refine GR.dn (by kernel_rfl) ?_
 refine GS.seq ?_
 refine GS.region (env' := fun j => [(0,pA m 0),(4,pA ((k 1).x) 0)]) (mem' := fun j => [(1,.cells m 69 (kc10 a l d u b q c r ((j 7).ob) ((j 7).cap))),(2,.rd a 1 [[vI 1]]),(3,.rd d 7 []),(4,.rd b 5 []),(5,.rd c 4 []),(8,.cells ((k 1).x) 60 (kc9)),(9,.osl n o 5 1 [[.int .u8 120]]),(11,.osl ((j 7).ob) ((j 7).cap) 57 46 ([(kc8 n o)] : List (List Value)))]) (RunsTo.mkd [(4,{ act := .load 1 0 0 [] }),(5,{ act := .load 7 0 0 [] }),(6,{ act := .new (.row 1 46),key := some 10 }),(7,{ act := .app (some 10),key := some 11,spf := some (fun f => .slice (f.ob) 1 (f.cap)) }),(10,{ act := .store 0 0 [],key := some 1 })] [0,4] [1,2,3,4,5,8,9,11] (fun j => [m = m,(k 0).x = (k 0).x,(some (Addr.mk (j 6).x 0 none)) = (some (Addr.mk (j 6).x 0 none)),1 = ([(kc8 n o)] : List (List Value)).length,0 = 0,0 = 0,([(kc8 n o)] : List (List Value)).length * (552 + 1) ≤ 70368744177664,((.slice ((j 7).ob) (0 + ([(kc8 n o)] : List (List Value)).length) ((j 7).cap)) : Value) = .slice ((j 7).ob) 1 ((j 7).cap),m = m,oC (.slice ((j 7).ob) 1 ((j 7).cap))]) (by kernel_rfl) (by kernel_rfl) (fun j => by kernel_rfl) (fun j => ⟨rfl,rfl,rfl,rfl,rfl,rfl,(show 1 * (552 + 1) ≤ 70368744177664 by decide),rfl,rfl,rfl,trivial⟩)) ?_
 intro j
 refine GS.conv (mem' := [(1,.cells m 69 (kc10 a l d u b q c r ((j 7).ob) ((j 7).cap))),(2,.rd a 1 [[vI 1]]),(3,.rd d 7 []),(4,.rd b 5 []),(5,.rd c 4 []),(8,.cells ((k 1).x) 60 (kc9)),(9,.osl n o 5 1 [[.int .u8 120]]),(11,.osl ((j 7).ob) ((j 7).cap) 57 46 [(kc8 n o)])]) rfl (congrArg (fun rr : List (List Value) => ([(1,.cells m 69 (kc10 a l d u b q c r ((j 7).ob) ((j 7).cap))),(2,.rd a 1 [[vI 1]]),(3,.rd d 7 []),(4,.rd b 5 []),(5,.rd c 4 []),(8,.cells ((k 1).x) 60 (kc9)),(9,.osl n o 5 1 [[.int .u8 120]]),(11,.osl ((j 7).ob) ((j 7).cap) 57 46 rr)] : List (Nat × Ent))) (show ([(kc8 n o)] : List (List Value)) = ([(kc8 n o)] : List (List Value)) from rfl)) ?_
 refine GS.seq ?_
 refine GS.know (p := ((j 7).ob).isNone = false) (fun w hw => ne_osl (hw.ok 11 _ rfl)) (fun an => ?_)
 refine GS.know (p := 1 ≤ (j 7).cap) (fun w hw => (hw.ok 11 _ rfl).1.1) (fun al => ?_)
 refine bnd_elim hm (fun ab am hm => ?_)
 refine GS.open_ ?_
 refine GR.rM (i := 0) 2 (env' := fun _ => [(4,pA ((k 1).x) 0),(60,pA m 0),(61,.agg ((kc9)).toArray)]) (by kernel_rfl) (RunsTo.mk [] [4,60,61] [1,2,3,4,5,8,9,11] (fun _ => []) (fun _ => by kernel_rfl) (fun _ => trivial)) ?_
 intro _
 refine GR.callG (X := Option Addr × Nat × Option Addr × Nat × Option Addr × Nat × Option Addr × Nat × Nat × Option Addr × Nat × Option Addr × Nat × Option Addr × Nat × Option Addr × Nat × Option Addr × Nat × Option Addr × Nat × Option Addr × Nat × Option Addr × Nat) (i := 2) (g := 27) (args := #[pA m 0,.agg ((kc9)).toArray]) (v := fun ⟨z,A,B,C,D,E,Q,aa,R,T,U,V,W,G,H,I,J,K,L,M,N,O,P,Y,Z⟩ => .agg ((kc33 G H I J K L M N O P)).toArray) (own := [.cells m 69 (kc10 a l d u b q c r ((j 7).ob) ((j 7).cap))]) (ro := [.rd a 1 [[vI 1]],.rd d 7 [],.rd b 5 [],.rd c 4 [],.rd n 1 [[.int .u8 120]],.rd ((j 7).ob) 46 [(kc8 n o)]]) (es' := fun ⟨z,A,B,C,D,E,Q,aa,R,T,U,V,W,G,H,I,J,K,L,M,N,O,P,Y,Z⟩ => [.cells m 69 (kc25 a l z A B C D E Q aa R),.osl z A 52 7 [(kc15)],.osl B C 80 5 [(kc20)],.osl D E 76 4 [(kc22 ab.1)],.cells R 87 (kc18 n o T U V W),.osl T U 5 1 [[.int .u8 120]],.osl V W 3 1 [[vI 1]],.osl G H 52 7 [(kc15)],.osl I J 80 5 [(kc20)],.osl K L 76 4 [(kc22 ab.2)],.osl M N 5 1 [[.int .u8 120]],.osl O P 57 46 [(kc32 Y Z)],.osl Y Z 5 1 [[.int .u8 120]]]) (mem' := fun ⟨z,A,B,C,D,E,Q,aa,R,T,U,V,W,G,H,I,J,K,L,M,N,O,P,Y,Z⟩ => [(1,.cells m 69 (kc25 a l z A B C D E Q aa R)),(2,.rd a 1 [[vI 1]]),(3,.rd d 7 []),(4,.rd b 5 []),(5,.rd c 4 []),(8,.cells ((k 1).x) 60 (kc9)),(9,.osl n o 5 1 [[.int .u8 120]]),(11,.osl ((j 7).ob) ((j 7).cap) 57 46 [(kc8 n o)]),(12,.osl z A 52 7 [(kc15)]),(13,.osl B C 80 5 [(kc20)]),(14,.osl D E 76 4 [(kc22 ab.1)]),(15,.cells R 87 (kc18 n o T U V W)),(16,.osl T U 5 1 [[.int .u8 120]]),(17,.osl V W 3 1 [[vI 1]]),(18,.osl G H 52 7 [(kc15)]),(19,.osl I J 80 5 [(kc20)]),(20,.osl K L 76 4 [(kc22 ab.2)]),(21,.osl M N 5 1 [[.int .u8 120]]),(22,.osl O P 57 46 [(kc32 Y Z)]),(23,.osl Y Z 5 1 [[.int .u8 120]])]) (env' := fun ⟨z,A,B,C,D,E,Q,aa,R,T,U,V,W,G,H,I,J,K,L,M,N,O,P,Y,Z⟩ => [(4,pA ((k 1).x) 0),(62,.agg ((kc33 G H I J K L M N O P)).toArray)]) [1] [1,12,13,14,15,16,17,18,19,20,21,22,23] [4,62] [1,2,3,4,5,8,9,11,12,13,14,15,16,17,18,19,20,21,22,23] false (by kernel_rfl) (by kernel_rfl) (by kernel_rfl) (by kernel_rfl) (by kernel_rfl) (fun _ => rfl) (fun _ _ => rfl) ⟨(.inl ⟨2,_,rfl,rfl,Cov.refl _,fun h => by cases h⟩),(.inl ⟨3,_,rfl,rfl,Cov.refl _,fun h => by cases h⟩),(.inl ⟨4,_,rfl,rfl,Cov.refl _,fun h => by cases h⟩),(.inl ⟨5,_,rfl,rfl,Cov.refl _,fun h => by cases h⟩),(.inl ⟨9,_,rfl,rfl,Cov.osl_rd,fun h => by cases h⟩),(.inl ⟨11,_,rfl,rfl,Cov.osl_rd,fun h => by cases h⟩),trivial⟩ (by rintro ⟨z,A,B,C,D,E,Q,aa,R,T,U,V,W,G,H,I,J,K,L,M,N,O,P,Y,Z⟩; kernel_rfl) (by rintro ⟨z,A,B,C,D,E,Q,aa,R,T,U,V,W,G,H,I,J,K,L,M,N,O,P,Y,Z⟩; kernel_rfl) ((by have h1 := w___primary_Machine__begin F m a l d u b q c r ((j 7).ob) ((j 7).cap) n o al am; exact h1)) ?_
 rintro ⟨z,A,B,C,D,E,Q,aa,R,T,U,V,W,G,H,I,J,K,L,M,N,O,P,Y,Z⟩
 refine GR.ru (i := 3) 1 (env' := fun _ => [(4,pA ((k 1).x) 0)]) (mem' := fun _ => [(1,.cells m 69 (kc25 a l z A B C D E Q aa R)),(2,.rd a 1 [[vI 1]]),(8,.cells ((k 1).x) 60 (kc33 G H I J K L M N O P)),(9,.osl n o 5 1 [[.int .u8 120]]),(12,.osl z A 52 7 [(kc15)]),(13,.osl B C 80 5 [(kc20)]),(14,.osl D E 76 4 [(kc22 ab.1)]),(15,.cells R 87 (kc18 n o T U V W)),(16,.osl T U 5 1 [[.int .u8 120]]),(17,.osl V W 3 1 [[vI 1]]),(18,.osl G H 52 7 [(kc15)]),(19,.osl I J 80 5 [(kc20)]),(20,.osl K L 76 4 [(kc22 ab.2)]),(21,.osl M N 5 1 [[.int .u8 120]]),(22,.osl O P 57 46 [(kc32 Y Z)]),(23,.osl Y Z 5 1 [[.int .u8 120]])]) (by kernel_rfl) (RunsTo.mk [(3,{ act := .store 0 0 [],key := some 8 })] [4] [1,2,8,9,12,13,14,15,16,17,18,19,20,21,22,23] (fun _ => [(k 1).x = (k 1).x,oC (.agg ((kc33 G H I J K L M N O P)).toArray)]) (fun _ => by kernel_rfl) (fun _ => ⟨rfl,rfl,trivial⟩)) ?_
 intro _
 refine GR.dn (by kernel_rfl) ?_
 have hy := Option.some.inj hm
 subst hy
 refine GS.ret (fn := Try.f12) [8] [.agg ((kc33 G H I J K L M N O P)).toArray] [(k 1).x = (k 1).x] rfl Try.func12 (by kernel_rfl) ⟨rfl,trivial⟩ (fun w' hs => ?_)
 exact ⟨⟨z,A,B,C,D,E,Q,aa,R,n,o,T,U,V,W,G,H,I,J,K,L,M,N,O,P,Y,Z⟩,rfl,hs.turnedG (ks := [1,12,13,14,15,9,16,17,18,19,20,21,22,23]) rfl rfl⟩

theorem w___primary_Machine__Step (F k : Nat) (a : Option Addr) (j : Nat) (e : Option Addr) (o : Nat) (b : Option Addr) (l : Nat) (c : Option Addr) (m : Nat) (d : Option Addr) (n : Nat) {y : Int × Int} (hm : m___primary_Machine__Step F = some y) : CallG Try.prog 7 #[pA k 0,.agg ((kc8 d n)).toArray] (X := Option Addr × Nat × Option Addr × Nat × Option Addr × Nat × Option Addr × Nat × Nat × Option Addr × Nat × Option Addr × Nat × Option Addr × Nat × Option Addr × Nat × Option Addr × Nat × Option Addr × Nat × Option Addr × Nat × Option Addr × Nat × Option Addr × Nat) (fun ⟨x0,x1,x2,x3,x4,x5,x6,x7,x8,x9,u,z,A,B,Q,R,C,D,E,G,H,I,J,p,q,r,s⟩ => .agg ((kc33 R C D E G H I J p q)).toArray) [.cells k 69 (kc6 a j e o b l c m)] [.rd a 1 [[vI 1]],.rd e 7 [],.rd b 5 [],.rd c 4 [],.rd d 1 [[.int .u8 120]]] (fun ⟨x0,x1,x2,x3,x4,x5,x6,x7,x8,x9,u,z,A,B,Q,R,C,D,E,G,H,I,J,p,q,r,s⟩ => [.cells k 69 (kc25 a j x0 x1 x2 x3 x4 x5 x6 x7 x8),.osl x0 x1 52 7 [(kc15)],.osl x2 x3 80 5 [(kc20)],.osl x4 x5 76 4 [(kc22 y.1)],.cells x8 87 (kc18 x9 u z A B Q),.osl x9 u 5 1 [[.int .u8 120]],.osl z A 5 1 [[.int .u8 120]],.osl B Q 3 1 [[vI 1]],.osl R C 52 7 [(kc15)],.osl D E 80 5 [(kc20)],.osl G H 76 4 [(kc22 y.2)],.osl I J 5 1 [[.int .u8 120]],.osl p q 57 46 [(kc32 r s)],.osl r s 5 1 [[.int .u8 120]]]) := by
 intro w hg
 rw [m___primary_Machine__Step] at hm
 refine GS.start (S := mayT [.cells k 69 (kc6 a j e o b l c m)] [.rd a 1 [[vI 1]],.rd e 7 [],.rd b 5 [],.rd c 4 [],.rd d 1 [[.int .u8 120]]]) (mem := [(1,.cells k 69 (kc6 a j e o b l c m)),(2,.rd a 1 [[vI 1]]),(3,.rd e 7 []),(4,.rd b 5 []),(5,.rd c 4 []),(6,.rd d 1 [[.int .u8 120]])]) Try.func7 rfl Try.ntmps7 (Nat.le_of_ble_eq_true rfl) (hg.start rfl) ?_
 refine GS.conv (env' := [(0,pA k 0),(1,.agg ((kc8 d n)).toArray)]) rfl rfl ?_
 refine GS.seq ?_
 refine GS.tz (fun f => [(0,pA k 0),(3,pA ((f 0).x) 0),(4,pA ((f 1).x) 0)]) (fun f => [(1,.cells k 69 (kc6 a j e o b l c m)),(2,.rd a 1 [[vI 1]]),(3,.rd e 7 []),(4,.rd b 5 []),(5,.rd c 4 []),(6,.rd d 1 [[.int .u8 120]]),(7,.cells ((f 0).x) 57 (kc8 d n)),(8,.cells ((f 1).x) 60 (kc9))]) [(0,{ act := .new .var,key := some 7 }),(1,{ act := .new .var,key := some 8 })] ?_
 intro f
 refine GS.seq ?_
 refine GS.seq ?_
 refine GS.rM (env' := fun _ => [(0,pA k 0),(3,pA ((f 0).x) 0),(4,pA ((f 1).x) 0),(32,.bool false)]) (RunsTo.mkd [(6,{ act := .load 1 0 0 [] }),(11,{ act := .load 7 0 0 [] }),(15,{ act := .load 1 0 0 [] }),(17,{ act := .eq,sp := some (.bool false) }),(21,{ act := .load 7 0 0 [] }),(25,{ act := .load 1 0 0 [] }),(26,{ act := .eq,sp := some (.bool false) })] [0,3,4,32] [1,2,3,4,5,6,7,8] (fun _ => [k = k,(f 0).x = (f 0).x,k = k,((.bool (!(S_api_Node.beq (S_api_Node.mk 2 0) (S_api_Node.mk 2 0)))) : Value) = .bool false,(f 0).x = (f 0).x,k = k,((.bool (!(S_api_Pg.beq (S_api_Pg.mk 1 0) (S_api_Pg.mk 1 0)))) : Value) = .bool false]) (by kernel_rfl) (by kernel_rfl) (fun _ => by kernel_rfl) (fun _ => ⟨rfl,rfl,rfl,(by kernel_rfl),rfl,rfl,(by kernel_rfl),trivial⟩)) ?_
 intro _
 refine GS.cond (t := false) rfl rfl (fun hf => by cases hf) (fun _ => ?_)
 refine GS.skip ?_
 refine GS.seq ?_
 refine GS.seq ?_
 refine GS.tgM (fun _ => [(0,pA k 0),(3,pA ((f 0).x) 0),(4,pA ((f 1).x) 0),(35,vI 30)]) [(1,{ act := .load 7 0 0 [] })] (fun _ => [(f 0).x = (f 0).x]) (fun _ => ⟨rfl,trivial⟩) ?_
 intro _
 refine GS.block ?_
 refine GS.seq ?_
 refine GS.tzM (fun _ => [(0,pA k 0),(3,pA ((f 0).x) 0),(4,pA ((f 1).x) 0),(35,vI 30),(36,.bool true)]) [] ?_
 intro _
 refine GS.cond (t := true) rfl rfl (fun _ => ?_) (fun hf => by cases hf)
 refine GS.seq ?_
 refine bnd_elim hm (fun y6 e7 hm => ?_)
 refine GS.open_ ?_
 refine GR.ru (i := 0) 2 (env' := fun _ => [(4,pA ((f 1).x) 0),(38,pA k 0),(39,.agg ((kc8 d n)).toArray)]) (mem' := fun _ => [(1,.cells k 69 (kc6 a j e o b l c m)),(2,.rd a 1 [[vI 1]]),(3,.rd e 7 []),(4,.rd b 5 []),(5,.rd c 4 []),(6,.rd d 1 [[.int .u8 120]]),(8,.cells ((f 1).x) 60 (kc9))]) (by kernel_rfl) (RunsTo.mk [(1,{ act := .load 7 0 0 [] })] [4,38,39] [1,2,3,4,5,6,8] (fun _ => [(f 0).x = (f 0).x]) (fun _ => by kernel_rfl) (fun _ => ⟨rfl,trivial⟩)) ?_
 intro _
 refine GR.callG (X := Option Addr × Nat × Option Addr × Nat × Option Addr × Nat × Option Addr × Nat × Nat × Option Addr × Nat × Option Addr × Nat × Option Addr × Nat × Option Addr × Nat × Option Addr × Nat × Option Addr × Nat × Option Addr × Nat × Option Addr × Nat × Option Addr × Nat) (i := 2) (g := 12) (args := #[pA k 0,.agg ((kc8 d n)).toArray]) (v := fun ⟨x8,x9,u,z,A,B,Q,R,C,D,E,G,H,I,J,p,q,r,s,K,L,M,N,O,P,T,U⟩ => .agg ((kc33 p q r s K L M N O P)).toArray) (own := [.cells k 69 (kc6 a j e o b l c m)]) (ro := [.rd a 1 [[vI 1]],.rd e 7 [],.rd b 5 [],.rd c 4 [],.rd d 1 [[.int .u8 120]]]) (es' := fun ⟨x8,x9,u,z,A,B,Q,R,C,D,E,G,H,I,J,p,q,r,s,K,L,M,N,O,P,T,U⟩ => [.cells k 69 (kc25 a j x8 x9 u z A B Q R C),.osl x8 x9 52 7 [(kc15)],.osl u z 80 5 [(kc20)],.osl A B 76 4 [(kc22 y6.1)],.cells C 87 (kc18 D E G H I J),.osl D E 5 1 [[.int .u8 120]],.osl G H 5 1 [[.int .u8 120]],.osl I J 3 1 [[vI 1]],.osl p q 52 7 [(kc15)],.osl r s 80 5 [(kc20)],.osl K L 76 4 [(kc22 y6.2)],.osl M N 5 1 [[.int .u8 120]],.osl O P 57 46 [(kc32 T U)],.osl T U 5 1 [[.int .u8 120]]]) (mem' := fun ⟨x8,x9,u,z,A,B,Q,R,C,D,E,G,H,I,J,p,q,r,s,K,L,M,N,O,P,T,U⟩ => [(1,.cells k 69 (kc25 a j x8 x9 u z A B Q R C)),(2,.rd a 1 [[vI 1]]),(3,.rd e 7 []),(4,.rd b 5 []),(5,.rd c 4 []),(6,.rd d 1 [[.int .u8 120]]),(8,.cells ((f 1).x) 60 (kc9)),(9,.osl x8 x9 52 7 [(kc15)]),(10,.osl u z 80 5 [(kc20)]),(11,.osl A B 76 4 [(kc22 y6.1)]),(12,.cells C 87 (kc18 D E G H I J)),(13,.osl D E 5 1 [[.int .u8 120]]),(14,.osl G H 5 1 [[.int .u8 120]]),(15,.osl I J 3 1 [[vI 1]]),(16,.osl p q 52 7 [(kc15)]),(17,.osl r s 80 5 [(kc20)]),(18,.osl K L 76 4 [(kc22 y6.2)]),(19,.osl M N 5 1 [[.int .u8 120]]),(20,.osl O P 57 46 [(kc32 T U)]),(21,.osl T U 5 1 [[.int .u8 120]])]) (env' := fun ⟨x8,x9,u,z,A,B,Q,R,C,D,E,G,H,I,J,p,q,r,s,K,L,M,N,O,P,T,U⟩ => [(4,pA ((f 1).x) 0),(40,.agg ((kc33 p q r s K L M N O P)).toArray)]) [1] [1,9,10,11,12,13,14,15,16,17,18,19,20,21] [4,40] [1,2,3,4,5,6,8,9,10,11,12,13,14,15,16,17,18,19,20,21] false (by kernel_rfl) (by kernel_rfl) (by kernel_rfl) (by kernel_rfl) (by kernel_rfl) (fun _ => rfl) (fun _ _ => rfl) ⟨(.inl ⟨2,_,rfl,rfl,Cov.refl _,fun h => by cases h⟩),(.inl ⟨3,_,rfl,rfl,Cov.refl _,fun h => by cases h⟩),(.inl ⟨4,_,rfl,rfl,Cov.refl _,fun h => by cases h⟩),(.inl ⟨5,_,rfl,rfl,Cov.refl _,fun h => by cases h⟩),(.inl ⟨6,_,rfl,rfl,Cov.refl _,fun h => by cases h⟩),trivial⟩ (by rintro ⟨x8,x9,u,z,A,B,Q,R,C,D,E,G,H,I,J,p,q,r,s,K,L,M,N,O,P,T,U⟩; kernel_rfl) (by rintro ⟨x8,x9,u,z,A,B,Q,R,C,D,E,G,H,I,J,p,q,r,s,K,L,M,N,O,P,T,U⟩; kernel_rfl) ((by have h1 := w___primary_Machine__request F k a j e o b l c m d n e7; exact h1)) ?_
 rintro ⟨x8,x9,u,z,A,B,Q,R,C,D,E,G,H,I,J,p,q,r,s,K,L,M,N,O,P,T,U⟩
 refine GR.ru (i := 3) 1 (env' := fun _ => [(4,pA ((f 1).x) 0)]) (mem' := fun _ => [(1,.cells k 69 (kc25 a j x8 x9 u z A B Q R C)),(2,.rd a 1 [[vI 1]]),(8,.cells ((f 1).x) 60 (kc33 p q r s K L M N O P)),(9,.osl x8 x9 52 7 [(kc15)]),(10,.osl u z 80 5 [(kc20)]),(11,.osl A B 76 4 [(kc22 y6.1)]),(12,.cells C 87 (kc18 D E G H I J)),(13,.osl D E 5 1 [[.int .u8 120]]),(14,.osl G H 5 1 [[.int .u8 120]]),(15,.osl I J 3 1 [[vI 1]]),(16,.osl p q 52 7 [(kc15)]),(17,.osl r s 80 5 [(kc20)]),(18,.osl K L 76 4 [(kc22 y6.2)]),(19,.osl M N 5 1 [[.int .u8 120]]),(20,.osl O P 57 46 [(kc32 T U)]),(21,.osl T U 5 1 [[.int .u8 120]])]) (by kernel_rfl) (RunsTo.mk [(3,{ act := .store 0 0 [],key := some 8 })] [4] [1,2,8,9,10,11,12,13,14,15,16,17,18,19,20,21] (fun _ => [(f 1).x = (f 1).x,oC (.agg ((kc33 p q r s K L M N O P)).toArray)]) (fun _ => by kernel_rfl) (fun _ => ⟨rfl,rfl,trivial⟩)) ?_
 intro _
 refine GR.dn (by kernel_rfl) ?_
 have hy := Option.some.inj hm
 subst hy
 refine GS.ret (fn := Try.f7) [8] [.agg ((kc33 p q r s K L M N O P)).toArray] [(f 1).x = (f 1).x] rfl Try.func7 (by kernel_rfl) ⟨rfl,trivial⟩ (fun w' hs => ?_)
 exact ⟨⟨x8,x9,u,z,A,B,Q,R,C,D,E,G,H,I,J,p,q,r,s,K,L,M,N,O,P,T,U⟩,rfl,hs.turnedG (ks := [1,9,10,11,12,13,14,15,16,17,18,19,20,21]) rfl rfl⟩

theorem w___primary_Machine__Idle (F s : Nat) (c : Option Addr) (m : Nat) (d : Option Addr) (n : Nat) (a : Option Addr) (i : Nat) (b : Option Addr) (j : Nat) (o : Int) (k : Option Addr) (l e : Nat) (f : Option Addr) (p : Nat) (g : Option Addr) (q : Nat) (h : Option Addr) (r : Nat) {y : Unit} (hm : m___primary_Machine__Idle F o = some y) : CallG Try.prog 8 #[pA s 0] (X := Unit) (fun (_ : Unit) => .bool false) [] [.rd c 1 [[vI 1]],.rd d 7 [(kc15)],.rd a 5 [(kc20)],.rd b 4 [(kc22 o)],.rd f 1 [[.int .u8 120]],.rd g 1 [[.int .u8 120]],.rd h 1 [[vI 1]],.rd (some ⟨e,0,none⟩) 61 [(kc18 f p g q h r)],.rd (some ⟨s,0,none⟩) 17 [(kc25 c m d n a i b j k l e)]] (fun (_ : Unit) => []) := by
 intro w hg
 rw [m___primary_Machine__Idle] at hm
 refine GS.start (S := mayT [] [.rd c 1 [[vI 1]],.rd d 7 [(kc15)],.rd a 5 [(kc20)],.rd b 4 [(kc22 o)],.rd f 1 [[.int .u8 120]],.rd g 1 [[.int .u8 120]],.rd h 1 [[vI 1]],.rd (some ⟨e,0,none⟩) 61 [(kc18 f p g q h r)],.rd (some ⟨s,0,none⟩) 17 [(kc25 c m d n a i b j k l e)]]) (mem := [(1,.rd c 1 [[vI 1]]),(2,.rd d 7 [(kc15)]),(3,.rd a 5 [(kc20)]),(4,.rd b 4 [(kc22 o)]),(5,.rd f 1 [[.int .u8 120]]),(6,.rd g 1 [[.int .u8 120]]),(7,.rd h 1 [[vI 1]]),(8,.rd (some ⟨e,0,none⟩) 61 [(kc18 f p g q h r)]),(9,.rd (some ⟨s,0,none⟩) 17 [(kc25 c m d n a i b j k l e)])]) Try.func8 rfl Try.ntmps8 (Nat.le_of_ble_eq_true rfl) (hg.start rfl) ?_
 refine GS.conv (env' := [(0,pA s 0)]) rfl rfl ?_
 refine GS.seq ?_
 refine GS.tzM (fun _ => [(0,pA s 0)]) [] ?_
 intro _
 refine GS.seq ?_
 refine GS.tg (fun _ => [(2,.bool false)]) (fun _ => []) [(6,{ act := .load 9 0 16 [vI 1,vI 0,vI 3,vI 0,vI 9,.slice c 1 m,vI 3,vI 0,vI 0,.slice d 1 n,.slice a 1 i,.slice b 1 j,.slice k 0 l,pA e 0,.bool false,vI 0,.bool true] }),(12,{ act := .load 9 0 13 [vI 1,vI 0,vI 3,vI 0,vI 9,.slice c 1 m,vI 3,vI 0,vI 0,.slice d 1 n,.slice a 1 i,.slice b 1 j,.slice k 0 l,pA e 0,.bool false,vI 0,.bool true] })] (fun _ => [s = blk (some ⟨s,0,none⟩),16 = offs (some ⟨s,0,none⟩) + (0 * 17 + 16),([(kc25 c m d n a i b j k l e)] : List (List Value))[0]? = some [vI 1,vI 0,vI 3,vI 0,vI 9,.slice c 1 m,vI 3,vI 0,vI 0,.slice d 1 n,.slice a 1 i,.slice b 1 j,.slice k 0 l,pA e 0,.bool false,vI 0,.bool true],s = blk (some ⟨s,0,none⟩),13 = offs (some ⟨s,0,none⟩) + (0 * 17 + 13),([(kc25 c m d n a i b j k l e)] : List (List Value))[0]? = some [vI 1,vI 0,vI 3,vI 0,vI 9,.slice c 1 m,vI 3,vI 0,vI 0,.slice d 1 n,.slice a 1 i,.slice b 1 j,.slice k 0 l,pA e 0,.bool false,vI 0,.bool true]]) (fun _ => ⟨rfl,rfl,rfl,rfl,rfl,rfl,trivial⟩) ?_
 intro _
 have hy := Option.some.inj hm
 subst hy
 refine GS.ret (fn := Try.f8) [0] [.bool false] [] rfl Try.func8 (by kernel_rfl) trivial (fun w' hs => ?_)
 exact ⟨(),rfl,hs.turnedG (ks := []) rfl rfl⟩

theorem w_slices_Index___int_int__2 (F : Nat) (a : Option Addr) (b : Nat) {y : Unit} (hm : m_slices_Index___int_int__2 F = some y) : CallG Try.prog 14 #[.slice a 1 b,vI 1] (X := Unit) (fun (_ : Unit) => vI 0) [] [.rd a 1 [[vI 1]]] (fun (_ : Unit) => []) := by
 intro w hg
 rw [m_slices_Index___int_int__2] at hm
 refine GS.start (S := mayT [] [.rd a 1 [[vI 1]]]) (mem := [(1,.rd a 1 [[vI 1]])]) Try.func14 rfl Try.ntmps14 (Nat.le_of_ble_eq_true rfl) (hg.start rfl) ?_
 refine GS.conv (env' := [(0,.slice a 1 b),(1,vI 1)]) rfl rfl ?_
 refine GS.seq ?_
 refine GS.tzM (fun _ => [(0,.slice a 1 b),(1,vI 1)]) [] ?_
 intro _
 refine GS.seq ?_
 refine GS.seq ?_
 refine GS.tzM (fun _ => [(0,.slice a 1 b),(1,vI 1),(7,vI 1),(8,vI 0)]) [] ?_
 intro _
 refine GS.block ?_
 refine GS.loop ?_
 refine GS.seq ?_
 refine GS.tzM (fun _ => [(0,.slice a 1 b),(1,vI 1),(7,vI 1),(8,vI 0),(9,.bool true)]) [] ?_
 intro _
 refine GS.seq ?_
 refine GS.cond (t := true) rfl rfl (fun _ => ?_) (fun hf => by cases hf)
 refine GS.skip ?_
 refine GS.seq ?_
 refine GS.block ?_
 refine GS.seq ?_
 refine GS.tzM (fun _ => [(0,.slice a 1 b),(1,vI 1),(5,vI 0),(7,vI 1),(8,vI 0)]) [] ?_
 intro _
 refine GS.seq ?_
 refine GS.tgM (fun _ => [(0,.slice a 1 b),(1,vI 1),(5,vI 0),(7,vI 1),(8,vI 0),(16,.bool true)]) [(3,{ act := .idx 1 0 }),(4,{ act := .load 1 0 0 [vI 1] })] (fun _ => [a = a,1 = ([[vI 1]] : List (List Value)).length,(0 : Int) = (0 : Int),0 < 1,blk a = blk a,offs a + 0 * 1 = offs a + (0 * 1 + 0),([[vI 1]] : List (List Value))[0]? = some [vI 1]]) (fun _ => ⟨rfl,rfl,rfl,(Nat.le_of_ble_eq_true rfl),rfl,rfl,rfl,trivial⟩) ?_
 intro _
 refine GS.cond (t := true) rfl rfl (fun _ => ?_) (fun hf => by cases hf)
 refine GS.seq ?_
 refine GS.tz (fun _ => [(4,vI 0)]) (fun _ => []) [] ?_
 intro _
 have hy := Option.some.inj hm
 subst hy
 refine GS.ret (fn := Try.f14) [0] [vI 0] [] rfl Try.func14 (by kernel_rfl) trivial (fun w' hs => ?_)
 exact ⟨(),rfl,hs.turnedG (ks := []) rfl rfl⟩

theorem w_slices_Delete___int_int_ (F : Nat) (c : Option Addr) (b : Nat) (d : 1 ≤ b) {y : Unit} (hm : m_slices_Delete___int_int_ F = some y) : CallG Try.prog 28 #[.slice c 1 b,vI 0,vI 1] (X := Unit) (fun (_ : Unit) => .slice c 0 b) [.osl c b 3 1 [[vI 1]]] [] (fun (_ : Unit) => [.osl c b 3 1 []]) := by
 intro w hg
 rw [m_slices_Delete___int_int_] at hm
 refine GS.start (S := mayT [.osl c b 3 1 [[vI 1]]] []) (mem := [(1,.osl c b 3 1 [[vI 1]])]) Try.func28 rfl Try.ntmps28 (Nat.le_of_ble_eq_true rfl) (hg.start rfl) ?_
 refine GS.conv (env' := [(0,.slice c 1 b),(1,vI 0),(2,vI 1)]) rfl rfl ?_
 refine GS.seq ?_
 refine GS.tzM (fun _ => [(0,.slice c 1 b),(1,vI 0),(2,vI 1)]) [] ?_
 intro _
 refine GS.seq ?_
 refine GS.tgM (fun _ => [(0,.slice c 1 b),(1,vI 0),(2,vI 1)]) [(5,{ act := .cut 0 1 1,sp := some (.slice (cutOb c 0 1 1) 1 1) })] (fun _ => [0 = (0 : Int),1 = (1 : Int),1 = (1 : Int),0 ≤ 1,1 ≤ 1,1 ≤ b,(some (Operand.tmp 10) : Option Operand) = none → (some (Operand.tmp 12) : Option Operand) = none,((.slice (if 1 = 0 then c else (c).map (fun a => a.add (0 * 1))) (1 - 0) (1 - 0)) : Value) = .slice (cutOb c 0 1 1) 1 1]) (fun _ => ⟨rfl,rfl,rfl,(Nat.le_of_ble_eq_true rfl),(Nat.le_of_ble_eq_true rfl),d,(by intro h; first | rfl | cases h),rfl,trivial⟩) ?_
 intro _
 refine GS.seq ?_
 refine GS.seq ?_
 refine GS.tzM (fun _ => [(0,.slice c 1 b),(1,vI 0),(2,vI 1),(16,.bool false)]) [] ?_
 intro _
 refine GS.cond (t := false) rfl rfl (fun hf => by cases hf) (fun _ => ?_)
 refine GS.skip ?_
 refine GS.seq ?_
 refine GS.tzM (fun _ => [(0,.slice c 1 b),(1,vI 0),(2,vI 1),(7,vI 1)]) [] ?_
 intro _
 refine GS.seq ?_
 refine GS.region (env' := fun e => [(0,.slice c 0 b),(7,vI 1)]) (mem' := fun e => [(1,.osl c b 3 1 (([[vI 1]] : List (List Value)).take 0 ++ ([[vI 1]] : List (List Value)).drop 1))]) (RunsTo.mkd [(2,{ act := .cut 0 0 b,sp := some (.slice c 0 b) }),(5,{ act := .cut 1 1 b,sp := some (.slice (cutOb c 1 b 1) 0 (b - 1)) }),(6,{ act := .appSelf 0 1 b,key := some 1,sp := some (.slice c 0 b) })] [0,7] [1] (fun e => [0 = 0,0 = (0 : Int),b = b,0 ≤ 0,0 ≤ b,b ≤ b,(some (Operand.tmp 21) : Option Operand) = none → (none : Option Operand) = none,(.slice (if b = 0 then c else (c).map (fun a => a.add (0 * 1))) (0 - 0) (b - 0) : Value) = .slice c 0 b,1 = (1 : Int),1 = 1,b = b,1 ≤ 1,1 ≤ b,b ≤ b,(none : Option Operand) = none → (none : Option Operand) = none,((.slice (if b = 1 then c else (c).map (fun a => a.add (1 * 1))) (1 - 1) (b - 1)) : Value) = .slice (cutOb c 1 b 1) 0 (b - 1),c = c,b = b,0 = 0,0 ≤ ([[vI 1]] : List (List Value)).length,1 ≤ ([[vI 1]] : List (List Value)).length,([[vI 1]] : List (List Value)).length ≤ b,(cutOb c 1 b 1) = cutOb c 1 b 1,0 = ([[vI 1]] : List (List Value)).length - 1,(0 + (([[vI 1]] : List (List Value)).length - 1)) * (8 + 1) ≤ 70368744177664,([[vI 1]] : List (List Value)).flatten.all Value.oneCell' = true,0 + (([[vI 1]] : List (List Value)).length - 1) ≤ b,((.slice c (0 + (([[vI 1]] : List (List Value)).length - 1)) b) : Value) = .slice c 0 b]) (by kernel_rfl) (by kernel_rfl) (fun e => by kernel_rfl) (fun e => ⟨rfl,rfl,rfl,(Nat.le_of_ble_eq_true rfl),(Nat.le_trans (Nat.le_of_ble_eq_true rfl : 0 ≤ 1) d),(Nat.le_refl _),(by intro h; first | rfl | cases h),cut_zero _ _ _ _,rfl,rfl,rfl,(Nat.le_of_ble_eq_true rfl),d,(Nat.le_refl _),(by intro h; first | rfl | cases h),rfl,rfl,rfl,rfl,(Nat.le_of_ble_eq_true rfl),(Nat.le_of_ble_eq_true rfl),d,rfl,rfl,(show 0 * (8 + 1) ≤ 70368744177664 by decide),rfl,(show 0 ≤ b from (Nat.le_trans (Nat.le_of_ble_eq_true rfl : 0 ≤ 1) d)),rfl,trivial⟩)) ?_
 intro e
 refine GS.conv (mem' := [(1,.osl c b 3 1 [])]) rfl (congrArg (fun rr : List (List Value) => ([(1,.osl c b 3 1 rr)] : List (Nat × Ent))) (show ([[vI 1]] : List (List Value)).take 0 ++ ([[vI 1]] : List (List Value)).drop 1 = ([] : List (List Value)) from rfl)) ?_
 refine GS.seq ?_
 refine GS.tgM (fun _ => [(0,.slice c 0 b)]) [(4,{ act := .cut 0 1 b,sp := some (.slice (cutOb c 0 b 1) 1 (b - 0)) }),(5,{ act := .clearS 0 b,key := some 1 })] (fun _ => [0 = (0 : Int),1 = (1 : Int),b = b,0 ≤ 1,1 ≤ b,b ≤ b,(some (Operand.tmp 30) : Option Operand) = none → (none : Option Operand) = none,((.slice (if b = 0 then c else (c).map (fun a => a.add (0 * 1))) (1 - 0) (b - 0)) : Value) = .slice (cutOb c 0 b 1) 1 (b - 0),cutOb c 0 b 1 = cutOb c 0 b 1,([] : List (List Value)).length ≤ 0,0 + (1) ≤ b,b ≤ b]) (fun _ => ⟨rfl,rfl,rfl,(Nat.le_of_ble_eq_true rfl),d,(Nat.le_refl _),(by intro h; first | rfl | cases h),rfl,rfl,(Nat.le_of_ble_eq_true rfl),(show 1 ≤ b from d),(Nat.le_refl _),trivial⟩) ?_
 intro _
 refine GS.seq ?_
 refine GS.tzM (fun _ => [(6,.slice c 0 b)]) [] ?_
 intro _
 have hy := Option.some.inj hm
 subst hy
 refine GS.ret (fn := Try.f28) [0] [.slice c 0 b] [] rfl Try.func28 (by kernel_rfl) trivial (fun w' hs => ?_)
 exact ⟨(),rfl,hs.turnedG (ks := [1]) rfl rfl⟩

theorem w___primary_Machine__to_2 (F t : Nat) (c : Option Addr) (m : Nat) (d : Option Addr) (n : Nat) (a : Option Addr) (f : Nat) (b : Option Addr) (g : Nat) (p : Int) (h : Option Addr) (i e : Nat) (j : Option Addr) (q : Nat) (k : Option Addr) (r : Nat) (l : Option Addr) (s : Nat) {y : Unit} (hm : m___primary_Machine__to_2 F p = some y) : CallG Try.prog 31 #[pA t 0,vI 0,.agg ((kc38)).toArray] (X := Unit) (fun (_ : Unit) => .agg ((kc40)).toArray) [] [.rd c 1 [[vI 1]],.rd d 7 [(kc15)],.rd a 5 [(kc20)],.rd b 4 [(kc22 p)],.rd j 1 [[.int .u8 120]],.rd k 1 [[.int .u8 120]],.rd l 1 [],.rd (some ⟨e,0,none⟩) 61 [(kc35 j q k r l s)],.rd (some ⟨t,0,none⟩) 17 [(kc25 c m d n a f b g h i e)]] (fun (_ : Unit) => []) := by
 intro w hg
 rw [m___primary_Machine__to_2] at hm
 refine GS.start (S := mayT [] [.rd c 1 [[vI 1]],.rd d 7 [(kc15)],.rd a 5 [(kc20)],.rd b 4 [(kc22 p)],.rd j 1 [[.int .u8 120]],.rd k 1 [[.int .u8 120]],.rd l 1 [],.rd (some ⟨e,0,none⟩) 61 [(kc35 j q k r l s)],.rd (some ⟨t,0,none⟩) 17 [(kc25 c m d n a f b g h i e)]]) (mem := [(1,.rd c 1 [[vI 1]]),(2,.rd d 7 [(kc15)]),(3,.rd a 5 [(kc20)]),(4,.rd b 4 [(kc22 p)]),(5,.rd j 1 [[.int .u8 120]]),(6,.rd k 1 [[.int .u8 120]]),(7,.rd l 1 []),(8,.rd (some ⟨e,0,none⟩) 61 [(kc35 j q k r l s)]),(9,.rd (some ⟨t,0,none⟩) 17 [(kc25 c m d n a f b g h i e)])]) Try.func31 rfl Try.ntmps31 (Nat.le_of_ble_eq_true rfl) (hg.start rfl) ?_
 refine GS.conv (env' := [(0,pA t 0),(1,vI 0),(2,.agg ((kc38)).toArray)]) rfl rfl ?_
 refine GS.seq ?_
 refine GS.tz (fun o => [(0,pA t 0),(1,vI 0),(5,pA ((o 0).x) 0),(6,pA ((o 1).x) 0)]) (fun o => [(1,.rd c 1 [[vI 1]]),(2,.rd d 7 [(kc15)]),(3,.rd a 5 [(kc20)]),(4,.rd b 4 [(kc22 p)]),(5,.rd j 1 [[.int .u8 120]]),(6,.rd k 1 [[.int .u8 120]]),(7,.rd l 1 []),(8,.rd (some ⟨e,0,none⟩) 61 [(kc35 j q k r l s)]),(9,.rd (some ⟨t,0,none⟩) 17 [(kc25 c m d n a f b g h i e)]),(10,.cells ((o 0).x) 57 (kc38)),(11,.cells ((o 1).x) 57 (kc29))]) [(0,{ act := .new .var,key := some 10 }),(1,{ act := .new .var,key := some 11 })] ?_
 intro o
 refine GS.seq ?_
 refine GS.tg (fun _ => [(0,pA t 0),(5,pA ((o 0).x) 0),(6,pA ((o 1).x) 0)]) (fun _ => [(1,.rd c 1 [[vI 1]]),(2,.rd d 7 [(kc15)]),(3,.rd a 5 [(kc20)]),(4,.rd b 4 [(kc22 p)]),(5,.rd j 1 [[.int .u8 120]]),(6,.rd k 1 [[.int .u8 120]]),(7,.rd l 1 []),(8,.rd (some ⟨e,0,none⟩) 61 [(kc35 j q k r l s)]),(9,.rd (some ⟨t,0,none⟩) 17 [(kc25 c m d n a f b g h i e)]),(10,.cells ((o 0).x) 57 (kc39)),(11,.cells ((o 1).x) 57 (kc29))]) [(3,{ act := .load 9 0 3 [vI 1,vI 0,vI 3,vI 0,vI 9,.slice c 1 m,vI 3,vI 0,vI 0,.slice d 1 n,.slice a 1 f,.slice b 1 g,.slice h 0 i,pA e 0,.bool false,vI 0,.bool true] }),(8,{ act := .store 0 0 [],key := some 10 }),(10,{ act := .store 0 0 [],key := some 10 })] (fun _ => [t = blk (some ⟨t,0,none⟩),3 = offs (some ⟨t,0,none⟩) + (0 * 17 + 3),([(kc25 c m d n a f b g h i e)] : List (List Value))[0]? = some [vI 1,vI 0,vI 3,vI 0,vI 9,.slice c 1 m,vI 3,vI 0,vI 0,.slice d 1 n,.slice a 1 f,.slice b 1 g,.slice h 0 i,pA e 0,.bool false,vI 0,.bool true],(o 0).x = (o 0).x,oC (.agg #[vI 2,vI 0]),(o 0).x = (o 0).x,oC (.agg #[vI 2,vI 0])]) (fun _ => ⟨rfl,rfl,rfl,rfl,rfl,rfl,rfl,trivial⟩) ?_
 intro _
 refine GS.seq ?_
 refine GS.region (env' := fun _ => [(5,pA ((o 0).x) 0),(6,pA ((o 1).x) 0)]) (mem' := fun _ => [(10,.cells ((o 0).x) 57 (kc40)),(11,.cells ((o 1).x) 57 (kc29))]) (RunsTo.mkd [(3,{ act := .load 9 0 4 [vI 1,vI 0,vI 3,vI 0,vI 9,.slice c 1 m,vI 3,vI 0,vI 0,.slice d 1 n,.slice a 1 f,.slice b 1 g,.slice h 0 i,pA e 0,.bool false,vI 0,.bool true] }),(7,{ act := .load 9 0 0 [vI 1,vI 0,vI 3,vI 0,vI 9,.slice c 1 m,vI 3,vI 0,vI 0,.slice d 1 n,.slice a 1 f,.slice b 1 g,.slice h 0 i,pA e 0,.bool false,vI 0,.bool true] }),(11,{ act := .load 9 0 2 [vI 1,vI 0,vI 3,vI 0,vI 9,.slice c 1 m,vI 3,vI 0,vI 0,.slice d 1 n,.slice a 1 f,.slice b 1 g,.slice h 0 i,pA e 0,.bool false,vI 0,.bool true] }),(13,{ act := .store 0 0 [],key := some 10 }),(15,{ act := .store 0 0 [],key := some 10 }),(17,{ act := .store 0 0 [],key := some 10 })] [5,6] [10,11] (fun _ => [t = blk (some ⟨t,0,none⟩),4 = offs (some ⟨t,0,none⟩) + (0 * 17 + 4),([(kc25 c m d n a f b g h i e)] : List (List Value))[0]? = some [vI 1,vI 0,vI 3,vI 0,vI 9,.slice c 1 m,vI 3,vI 0,vI 0,.slice d 1 n,.slice a 1 f,.slice b 1 g,.slice h 0 i,pA e 0,.bool false,vI 0,.bool true],t = blk (some ⟨t,0,none⟩),0 = offs (some ⟨t,0,none⟩) + (0 * 17 + 0),([(kc25 c m d n a f b g h i e)] : List (List Value))[0]? = some [vI 1,vI 0,vI 3,vI 0,vI 9,.slice c 1 m,vI 3,vI 0,vI 0,.slice d 1 n,.slice a 1 f,.slice b 1 g,.slice h 0 i,pA e 0,.bool false,vI 0,.bool true],t = blk (some ⟨t,0,none⟩),2 = offs (some ⟨t,0,none⟩) + (0 * 17 + 2),([(kc25 c m d n a f b g h i e)] : List (List Value))[0]? = some [vI 1,vI 0,vI 3,vI 0,vI 9,.slice c 1 m,vI 3,vI 0,vI 0,.slice d 1 n,.slice a 1 f,.slice b 1 g,.slice h 0 i,pA e 0,.bool false,vI 0,.bool true],(o 0).x = (o 0).x,oC (vI 9),(o 0).x = (o 0).x,oC (.agg #[vI 1,vI 0]),(o 0).x = (o 0).x,oC (vI 3)]) (by kernel_rfl) (by kernel_rfl) (fun _ => by kernel_rfl) (fun _ => ⟨rfl,rfl,rfl,rfl,rfl,rfl,rfl,rfl,rfl,rfl,rfl,rfl,rfl,rfl,rfl,trivial⟩)) ?_
 intro _
 refine GS.seq ?_
 refine GS.tg (fun _ => [(6,pA ((o 1).x) 0)]) (fun _ => [(11,.cells ((o 1).x) 57 (kc40))]) [(0,{ act := .load 10 0 0 [] }),(1,{ act := .store 0 0 [],key := some 11 })] (fun _ => [(o 0).x = (o 0).x,(o 1).x = (o 1).x,oC (.agg ((kc40)).toArray)]) (fun _ => ⟨rfl,rfl,rfl,trivial⟩) ?_
 intro _
 have hy := Option.some.inj hm
 subst hy
 refine GS.ret (fn := Try.f31) [11] [.agg ((kc40)).toArray] [(o 1).x = (o 1).x] rfl Try.func31 (by kernel_rfl) ⟨rfl,trivial⟩ (fun w' hs => ?_)
 exact ⟨(),rfl,hs.turnedG (ks := []) rfl rfl⟩

theorem w___primary_Machine__answer (F t : Nat) (j : Option Addr) (r : Nat) (k : Option Addr) (s : Nat) (f : Option Addr) (n : Nat) (g : Option Addr) (o : Nat) (l : Int) (p : Option Addr) (q m : Nat) (a : Option Addr) (d : Nat) (b : Option Addr) (h : Nat) (c : Option Addr) (i : Nat) {y : Unit} (hm : m___primary_Machine__answer F l = some y) : CallG Try.prog 24 #[pA t 0,.agg ((kc8 a d)).toArray,.agg ((kc37)).toArray] (X := Unit) (fun (_ : Unit) => .agg ((kc41)).toArray) [] [.rd j 1 [[vI 1]],.rd k 7 [(kc15)],.rd f 5 [(kc20)],.rd g 4 [(kc22 l)],.rd a 1 [[.int .u8 120]],.rd b 1 [[.int .u8 120]],.rd c 1 [],.rd (some ⟨m,0,none⟩) 61 [(kc35 a d b h c i)],.rd (some ⟨t,0,none⟩) 17 [(kc25 j r k s f n g o p q m)]] (fun (_ : Unit) => []) := by
 intro w hg
 rw [m___primary_Machine__answer] at hm
 refine GS.start (S := mayT [] [.rd j 1 [[vI 1]],.rd k 7 [(kc15)],.rd f 5 [(kc20)],.rd g 4 [(kc22 l)],.rd a 1 [[.int .u8 120]],.rd b 1 [[.int .u8 120]],.rd c 1 [],.rd (some ⟨m,0,none⟩) 61 [(kc35 a d b h c i)],.rd (some ⟨t,0,none⟩) 17 [(kc25 j r k s f n g o p q m)]]) (mem := [(1,.rd j 1 [[vI 1]]),(2,.rd k 7 [(kc15)]),(3,.rd f 5 [(kc20)]),(4,.rd g 4 [(kc22 l)]),(5,.rd a 1 [[.int .u8 120]]),(6,.rd b 1 [[.int .u8 120]]),(7,.rd c 1 []),(8,.rd (some ⟨m,0,none⟩) 61 [(kc35 a d b h c i)]),(9,.rd (some ⟨t,0,none⟩) 17 [(kc25 j r k s f n g o p q m)])]) Try.func24 rfl Try.ntmps24 (Nat.le_of_ble_eq_true rfl) (hg.start rfl) ?_
 refine GS.conv (env' := [(0,pA t 0),(1,.agg ((kc8 a d)).toArray),(2,.agg ((kc37)).toArray)]) rfl rfl ?_
 refine GS.seq ?_
 refine GS.tz (fun e => [(0,pA t 0),(4,pA ((e 0).x) 0),(5,pA ((e 1).x) 0),(6,pA ((e 2).x) 0)]) (fun e => [(1,.rd j 1 [[vI 1]]),(2,.rd k 7 [(kc15)]),(3,.rd f 5 [(kc20)]),(4,.rd g 4 [(kc22 l)]),(5,.rd a 1 [[.int .u8 120]]),(6,.rd b 1 [[.int .u8 120]]),(7,.rd c 1 []),(8,.rd (some ⟨m,0,none⟩) 61 [(kc35 a d b h c i)]),(9,.rd (some ⟨t,0,none⟩) 17 [(kc25 j r k s f n g o p q m)]),(10,.cells ((e 0).x) 57 (kc8 a d)),(11,.cells ((e 1).x) 57 (kc37)),(12,.cells ((e 2).x) 57 (kc29))]) [(0,{ act := .new .var,key := some 10 }),(1,{ act := .new .var,key := some 11 }),(2,{ act := .new .var,key := some 12 })] ?_
 intro e
 refine GS.seq ?_
 refine GS.region (env' := fun _ => [(0,pA t 0),(4,pA ((e 0).x) 0),(5,pA ((e 1).x) 0),(6,pA ((e 2).x) 0)]) (mem' := fun _ => [(1,.rd j 1 [[vI 1]]),(2,.rd k 7 [(kc15)]),(3,.rd f 5 [(kc20)]),(4,.rd g 4 [(kc22 l)]),(5,.rd a 1 [[.int .u8 120]]),(6,.rd b 1 [[.int .u8 120]]),(7,.rd c 1 []),(8,.rd (some ⟨m,0,none⟩) 61 [(kc35 a d b h c i)]),(9,.rd (some ⟨t,0,none⟩) 17 [(kc25 j r k s f n g o p q m)]),(10,.cells ((e 0).x) 57 (kc8 a d)),(11,.cells ((e 1).x) 57 (kc38)),(12,.cells ((e 2).x) 57 (kc29))]) (RunsTo.mkd [(1,{ act := .load 10 0 0 [] }),(3,{ act := .load 10 0 0 [] }),(5,{ act := .store 0 0 [],key := some 11 }),(7,{ act := .store 0 0 [],key := some 11 }),(9,{ act := .store 0 0 [],key := some 11 })] [0,4,5,6] [1,2,3,4,5,6,7,8,9,10,11,12] (fun _ => [(e 0).x = (e 0).x,(e 0).x = (e 0).x,(e 1).x = (e 1).x,oC (vI 31),(e 1).x = (e 1).x,oC (vI 5),(e 1).x = (e 1).x,oC (vI 1)]) (by kernel_rfl) (by kernel_rfl) (fun _ => by kernel_rfl) (fun _ => ⟨rfl,rfl,rfl,rfl,rfl,rfl,rfl,rfl,trivial⟩)) ?_
 intro _
 refine GS.seq ?_
 refine bnd_elim hm (fun y4 e5 hm => ?_)
 refine GS.tg (fun _ => [(4,pA ((e 0).x) 0),(5,pA ((e 1).x) 0),(6,pA ((e 2).x) 0)]) (fun _ => [(5,.rd a 1 [[.int .u8 120]]),(10,.cells ((e 0).x) 57 (kc8 a d)),(11,.cells ((e 1).x) 57 (kc40)),(12,.cells ((e 2).x) 57 (kc29))]) [(1,{ act := .load 11 0 0 [] }),(2,{ act := .call [1,2,3,4,5,6,7,8,9] (.agg ((kc40)).toArray) }),(3,{ act := .store 0 0 [],key := some 11 })] (fun _ => [(e 1).x = (e 1).x,CallOK Try.prog 31 #[pA t 0,vI 0,.agg ((kc38)).toArray] (.agg ((kc40)).toArray) [some (.rd j 1 [[vI 1]]),some (.rd k 7 [(kc15)]),some (.rd f 5 [(kc20)]),some (.rd g 4 [(kc22 l)]),some (.rd a 1 [[.int .u8 120]]),some (.rd b 1 [[.int .u8 120]]),some (.rd c 1 []),some (.rd (some ⟨m,0,none⟩) 61 [(kc35 a d b h c i)]),some (.rd (some ⟨t,0,none⟩) 17 [(kc25 j r k s f n g o p q m)])],(e 1).x = (e 1).x,oC (.agg ((kc40)).toArray)]) (fun _ => ⟨rfl,(by have h1 := w___primary_Machine__to_2 F t j r k s f n g o l p q m a d b h c i e5; exact h1.ok ⟨(.inl ⟨.rd j 1 [[vI 1]],.head _,Cov.refl _⟩),(.inl ⟨.rd k 7 [(kc15)],(.tail _ (.head _)),Cov.refl _⟩),(.inl ⟨.rd f 5 [(kc20)],(.tail _ (.tail _ (.head _))),Cov.refl _⟩),(.inl ⟨.rd g 4 [(kc22 l)],(.tail _ (.tail _ (.tail _ (.head _)))),Cov.refl _⟩),(.inl ⟨.rd a 1 [[.int .u8 120]],(.tail _ (.tail _ (.tail _ (.tail _ (.head _))))),Cov.refl _⟩),(.inl ⟨.rd b 1 [[.int .u8 120]],(.tail _ (.tail _ (.tail _ (.tail _ (.tail _ (.head _)))))),Cov.refl _⟩),(.inl ⟨.rd c 1 [],(.tail _ (.tail _ (.tail _ (.tail _ (.tail _ (.tail _ (.head _))))))),Cov.refl _⟩),(.inl ⟨.rd (some ⟨m,0,none⟩) 61 [(kc35 a d b h c i)],(.tail _ (.tail _ (.tail _ (.tail _ (.tail _ (.tail _ (.tail _ (.head _)))))))),Cov.refl _⟩),(.inl ⟨.rd (some ⟨t,0,none⟩) 17 [(kc25 j r k s f n g o p q m)],(.tail _ (.tail _ (.tail _ (.tail _ (.tail _ (.tail _ (.tail _ (.tail _ (.head _))))))))),Cov.refl _⟩),trivial⟩),rfl,rfl,trivial⟩) ?_
 intro _
 refine GS.seq ?_
 refine GS.tg (fun _ => [(5,pA ((e 1).x) 0),(6,pA ((e 2).x) 0)]) (fun _ => [(11,.cells ((e 1).x) 57 (kc41)),(12,.cells ((e 2).x) 57 (kc29))]) [(1,{ act := .load 10 0 0 [] }),(3,{ act := .store 0 0 [],key := some 11 })] (fun _ => [(e 0).x = (e 0).x,(e 1).x = (e 1).x,oC (.agg #[vI 3,vI 0])]) (fun _ => ⟨rfl,rfl,rfl,trivial⟩) ?_
 intro _
 refine GS.seq ?_
 refine GS.tg (fun _ => [(6,pA ((e 2).x) 0)]) (fun _ => [(12,.cells ((e 2).x) 57 (kc41))]) [(0,{ act := .load 11 0 0 [] }),(1,{ act := .store 0 0 [],key := some 12 })] (fun _ => [(e 1).x = (e 1).x,(e 2).x = (e 2).x,oC (.agg ((kc41)).toArray)]) (fun _ => ⟨rfl,rfl,rfl,trivial⟩) ?_
 intro _
 have hy := Option.some.inj hm
 subst hy
 refine GS.ret (fn := Try.f24) [12] [.agg ((kc41)).toArray] [(e 2).x = (e 2).x] rfl Try.func24 (by kernel_rfl) ⟨rfl,trivial⟩ (fun w' hs => ?_)
 exact ⟨(),rfl,hs.turnedG (ks := []) rfl rfl⟩

end Go.Proofs.Ytjnbkhnebmlilaa
