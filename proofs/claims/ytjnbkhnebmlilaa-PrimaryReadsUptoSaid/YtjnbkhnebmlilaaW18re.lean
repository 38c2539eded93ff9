/-
 CHAPTER 18r: the functions do what their models say (5).
-/
import Derived.Test.YtjnbkhnebmlilaaE18r
import Derived.Test.YtjnbkhnebmlilaaW18ra
import Derived.Test.YtjnbkhnebmlilaaW18rd
set_option linter.unusedVariables false
set_option linter.unusedSimpArgs false
set_option maxRecDepth 100000
set_option maxHeartbeats 8000000
namespace Go.Proofs.Ytjnbkhnebmlilaa
open Go Go.RowKit Sx

theorem w___primary_Machine__done_2 (F z : Nat) (k : Option Addr) (u : Nat) (l : Option Addr) (v : Nat) (i : Option Addr) (p : Nat) (j : Option Addr) (q : Nat) (m : Int) (r : Option Addr) (s h : Nat) (a : Option Addr) (d : Nat) (b : Option Addr) (e : Nat) (c : Option Addr) (g : Nat) {y : Unit} (hm : m___primary_Machine__done_2 F m = some y) : CallG Try.prog 29 #[pA z 0,.agg ((kc9)).toArray] (X := Option Addr × Nat) (fun ⟨x0,x1⟩ => .agg ((kc42 x0 x1)).toArray) [.cells z 69 (kc25 k u l v i p j q r s h)] [.rd k 1 [[vI 1]],.rd l 7 [(kc15)],.rd i 5 [(kc20)],.rd j 4 [(kc22 m)],.rd a 1 [[.int .u8 120]],.rd b 1 [[.int .u8 120]],.rd c 1 [],.rd (some ⟨h,0,none⟩) 61 [(kc35 a d b e c g)]] (fun ⟨x0,x1⟩ => [.cells z 69 (kc24 k u l v i p j q r s),.osl x0 x1 57 46 [(kc41)]]) := by
 intro w hg
 rw [m___primary_Machine__done_2] at hm
 refine GS.start (S := mayT [.cells z 69 (kc25 k u l v i p j q r s h)] [.rd k 1 [[vI 1]],.rd l 7 [(kc15)],.rd i 5 [(kc20)],.rd j 4 [(kc22 m)],.rd a 1 [[.int .u8 120]],.rd b 1 [[.int .u8 120]],.rd c 1 [],.rd (some ⟨h,0,none⟩) 61 [(kc35 a d b e c g)]]) (mem := [(1,.cells z 69 (kc25 k u l v i p j q r s h)),(2,.rd k 1 [[vI 1]]),(3,.rd l 7 [(kc15)]),(4,.rd i 5 [(kc20)]),(5,.rd j 4 [(kc22 m)]),(6,.rd a 1 [[.int .u8 120]]),(7,.rd b 1 [[.int .u8 120]]),(8,.rd c 1 []),(9,.rd (some ⟨h,0,none⟩) 61 [(kc35 a d b e c g)])]) Try.func29 rfl Try.ntmps29 (Nat.le_of_ble_eq_true rfl) (hg.start rfl) ?_
 refine GS.conv (env' := [(0,pA z 0),(1,.agg ((kc9)).toArray)]) rfl rfl ?_
 refine GS.seq ?_
 refine GS.tz (fun o => [(0,pA z 0),(3,pA ((o 0).x) 0),(4,pA ((o 1).x) 0)]) (fun o => [(1,.cells z 69 (kc25 k u l v i p j q r s h)),(2,.rd k 1 [[vI 1]]),(3,.rd l 7 [(kc15)]),(4,.rd i 5 [(kc20)]),(5,.rd j 4 [(kc22 m)]),(6,.rd a 1 [[.int .u8 120]]),(7,.rd b 1 [[.int .u8 120]]),(8,.rd c 1 []),(9,.rd (some ⟨h,0,none⟩) 61 [(kc35 a d b e c g)]),(10,.cells ((o 0).x) 60 (kc9)),(11,.cells ((o 1).x) 60 (kc9))]) [(0,{ act := .new .var,key := some 10 }),(1,{ act := .new .var,key := some 11 })] ?_
 intro o
 refine GS.seq ?_
 refine GS.tgM (fun _ => [(0,pA z 0),(3,pA ((o 0).x) 0),(4,pA ((o 1).x) 0),(5,pA h 0)]) [(3,{ act := .load 1 0 0 [] })] (fun _ => [z = z]) (fun _ => ⟨rfl,trivial⟩) ?_
 intro _
 refine GS.seq ?_
 refine GS.seq ?_
 refine GS.tgM (fun _ => [(0,pA z 0),(3,pA ((o 0).x) 0),(4,pA ((o 1).x) 0),(5,pA h 0),(25,.bool false)]) [(6,{ act := .load 9 0 59 [vI 30,vI 3,vI 0,vI 2,vI 0,vI 0,vI 0,vI 1,vI 0,vI 5,vI 1,vI 0,.slice none 0 0,.slice none 0 0,.slice none 0 0,vI 0,vI 0,vI 0,vI 0,vI 0,vI 0,vI 0,vI 0,vI 0,.slice none 0 0,.slice none 0 0,.slice none 0 0,vI 0,vI 0,.bool false,vI 0,.string (ByteArray.mk #[]),vI 0,vI 0,.string (ByteArray.mk #[]),vI 0,vI 0,.slice none 0 0,vI 2,.string (ByteArray.mk #[97]),.slice a 1 d,vI 0,vI 0,.slice none 0 0,.slice none 0 0,vI 0,.bool true,vI 3,vI 1,.bool false,vI 0,.string (ByteArray.mk #[97]),vI 5,vI 1,.string (ByteArray.mk #[97]),vI 3,vI 1,.slice b 1 e,vI 0,.slice c 0 g,.bool false] })] (fun _ => [h = blk (some ⟨h,0,none⟩),59 = offs (some ⟨h,0,none⟩) + (0 * 61 + 59),([(kc35 a d b e c g)] : List (List Value))[0]? = some [vI 30,vI 3,vI 0,vI 2,vI 0,vI 0,vI 0,vI 1,vI 0,vI 5,vI 1,vI 0,.slice none 0 0,.slice none 0 0,.slice none 0 0,vI 0,vI 0,vI 0,vI 0,vI 0,vI 0,vI 0,vI 0,vI 0,.slice none 0 0,.slice none 0 0,.slice none 0 0,vI 0,vI 0,.bool false,vI 0,.string (ByteArray.mk #[]),vI 0,vI 0,.string (ByteArray.mk #[]),vI 0,vI 0,.slice none 0 0,vI 2,.string (ByteArray.mk #[97]),.slice a 1 d,vI 0,vI 0,.slice none 0 0,.slice none 0 0,vI 0,.bool true,vI 3,vI 1,.bool false,vI 0,.string (ByteArray.mk #[97]),vI 5,vI 1,.string (ByteArray.mk #[97]),vI 3,vI 1,.slice b 1 e,vI 0,.slice c 0 g,.bool false]]) (fun _ => ⟨rfl,rfl,rfl,trivial⟩) ?_
 intro _
 refine GS.cond (t := false) rfl rfl (fun hf => by cases hf) (fun _ => ?_)
 refine GS.skip ?_
 refine GS.seq ?_
 refine GS.tg (fun B => [(0,pA z 0),(3,pA ((o 0).x) 0),(4,pA ((o 1).x) 0),(5,pA h 0),(6,pA ((B 5).x) 0)]) (fun B => [(1,.cells z 69 (kc25 k u l v i p j q r s h)),(2,.rd k 1 [[vI 1]]),(3,.rd l 7 [(kc15)]),(4,.rd i 5 [(kc20)]),(5,.rd j 4 [(kc22 m)]),(6,.rd a 1 [[.int .u8 120]]),(7,.rd b 1 [[.int .u8 120]]),(8,.rd c 1 []),(9,.rd (some ⟨h,0,none⟩) 61 [(kc35 a d b e c g)]),(10,.cells ((o 0).x) 60 (kc9)),(11,.cells ((o 1).x) 60 (kc9)),(12,.cells ((B 5).x) 45 (kc13 a d))]) [(4,{ act := .load 9 0 38 [vI 30,vI 3,vI 0,vI 2,vI 0,vI 0,vI 0,vI 1,vI 0,vI 5,vI 1,vI 0,.slice none 0 0,.slice none 0 0,.slice none 0 0,vI 0,vI 0,vI 0,vI 0,vI 0,vI 0,vI 0,vI 0,vI 0,.slice none 0 0,.slice none 0 0,.slice none 0 0,vI 0,vI 0,.bool false,vI 0,.string (ByteArray.mk #[]),vI 0,vI 0,.string (ByteArray.mk #[]),vI 0,vI 0,.slice none 0 0,vI 2,.string (ByteArray.mk #[97]),.slice a 1 d,vI 0,vI 0,.slice none 0 0,.slice none 0 0,vI 0,.bool true,vI 3,vI 1,.bool false,vI 0,.string (ByteArray.mk #[97]),vI 5,vI 1,.string (ByteArray.mk #[97]),vI 3,vI 1,.slice b 1 e,vI 0,.slice c 0 g,.bool false] }),(5,{ act := .new .var,key := some 12 }),(6,{ act := .store 0 0 [],key := some 12 })] (fun B => [h = blk (some ⟨h,0,none⟩),38 = offs (some ⟨h,0,none⟩) + (0 * 61 + 38),([(kc35 a d b e c g)] : List (List Value))[0]? = some [vI 30,vI 3,vI 0,vI 2,vI 0,vI 0,vI 0,vI 1,vI 0,vI 5,vI 1,vI 0,.slice none 0 0,.slice none 0 0,.slice none 0 0,vI 0,vI 0,vI 0,vI 0,vI 0,vI 0,vI 0,vI 0,vI 0,.slice none 0 0,.slice none 0 0,.slice none 0 0,vI 0,vI 0,.bool false,vI 0,.string (ByteArray.mk #[]),vI 0,vI 0,.string (ByteArray.mk #[]),vI 0,vI 0,.slice none 0 0,vI 2,.string (ByteArray.mk #[97]),.slice a 1 d,vI 0,vI 0,.slice none 0 0,.slice none 0 0,vI 0,.bool true,vI 3,vI 1,.bool false,vI 0,.string (ByteArray.mk #[97]),vI 5,vI 1,.string (ByteArray.mk #[97]),vI 3,vI 1,.slice b 1 e,vI 0,.slice c 0 g,.bool false],(B 5).x = (B 5).x,oC (.agg ((kc13 a d)).toArray)]) (fun B => ⟨rfl,rfl,rfl,rfl,rfl,trivial⟩) ?_
 intro B
 refine GS.seq ?_
 refine GS.tg (fun A => [(0,pA z 0),(3,pA ((o 0).x) 0),(4,pA ((o 1).x) 0),(5,pA h 0),(6,pA ((B 5).x) 0),(7,pA ((A 1).x) 0)]) (fun A => [(1,.cells z 69 (kc25 k u l v i p j q r s h)),(2,.rd k 1 [[vI 1]]),(3,.rd l 7 [(kc15)]),(4,.rd i 5 [(kc20)]),(5,.rd j 4 [(kc22 m)]),(6,.rd a 1 [[.int .u8 120]]),(7,.rd b 1 [[.int .u8 120]]),(8,.rd c 1 []),(9,.rd (some ⟨h,0,none⟩) 61 [(kc35 a d b e c g)]),(10,.cells ((o 0).x) 60 (kc9)),(11,.cells ((o 1).x) 60 (kc9)),(12,.cells ((B 5).x) 45 (kc13 a d)),(13,.cells ((A 1).x) 57 (kc29))]) [(1,{ act := .new .var,key := some 13 }),(2,{ act := .store 0 0 [],key := some 13 })] (fun A => [(A 1).x = (A 1).x,oC (.agg ((kc29)).toArray)]) (fun A => ⟨rfl,rfl,trivial⟩) ?_
 intro A
 refine GS.seq ?_
 refine GS.block ?_
 refine GS.seq ?_
 refine GS.tgM (fun _ => [(0,pA z 0),(3,pA ((o 0).x) 0),(4,pA ((o 1).x) 0),(5,pA h 0),(6,pA ((B 5).x) 0),(7,pA ((A 1).x) 0),(53,.bool true)]) [(3,{ act := .load 9 0 46 [vI 30,vI 3,vI 0,vI 2,vI 0,vI 0,vI 0,vI 1,vI 0,vI 5,vI 1,vI 0,.slice none 0 0,.slice none 0 0,.slice none 0 0,vI 0,vI 0,vI 0,vI 0,vI 0,vI 0,vI 0,vI 0,vI 0,.slice none 0 0,.slice none 0 0,.slice none 0 0,vI 0,vI 0,.bool false,vI 0,.string (ByteArray.mk #[]),vI 0,vI 0,.string (ByteArray.mk #[]),vI 0,vI 0,.slice none 0 0,vI 2,.string (ByteArray.mk #[97]),.slice a 1 d,vI 0,vI 0,.slice none 0 0,.slice none 0 0,vI 0,.bool true,vI 3,vI 1,.bool false,vI 0,.string (ByteArray.mk #[97]),vI 5,vI 1,.string (ByteArray.mk #[97]),vI 3,vI 1,.slice b 1 e,vI 0,.slice c 0 g,.bool false] })] (fun _ => [h = blk (some ⟨h,0,none⟩),46 = offs (some ⟨h,0,none⟩) + (0 * 61 + 46),([(kc35 a d b e c g)] : List (List Value))[0]? = some [vI 30,vI 3,vI 0,vI 2,vI 0,vI 0,vI 0,vI 1,vI 0,vI 5,vI 1,vI 0,.slice none 0 0,.slice none 0 0,.slice none 0 0,vI 0,vI 0,vI 0,vI 0,vI 0,vI 0,vI 0,vI 0,vI 0,.slice none 0 0,.slice none 0 0,.slice none 0 0,vI 0,vI 0,.bool false,vI 0,.string (ByteArray.mk #[]),vI 0,vI 0,.string (ByteArray.mk #[]),vI 0,vI 0,.slice none 0 0,vI 2,.string (ByteArray.mk #[97]),.slice a 1 d,vI 0,vI 0,.slice none 0 0,.slice none 0 0,vI 0,.bool true,vI 3,vI 1,.bool false,vI 0,.string (ByteArray.mk #[97]),vI 5,vI 1,.string (ByteArray.mk #[97]),vI 3,vI 1,.slice b 1 e,vI 0,.slice c 0 g,.bool false]]) (fun _ => ⟨rfl,rfl,rfl,trivial⟩) ?_
 intro _
 refine GS.cond (t := true) rfl rfl (fun _ => ?_) (fun hf => by cases hf)
 refine GS.seq ?_
 refine GS.tg (fun _ => [(0,pA z 0),(3,pA ((o 0).x) 0),(4,pA ((o 1).x) 0),(5,pA h 0),(7,pA ((A 1).x) 0)]) (fun _ => [(1,.cells z 69 (kc25 k u l v i p j q r s h)),(2,.rd k 1 [[vI 1]]),(3,.rd l 7 [(kc15)]),(4,.rd i 5 [(kc20)]),(5,.rd j 4 [(kc22 m)]),(6,.rd a 1 [[.int .u8 120]]),(7,.rd b 1 [[.int .u8 120]]),(8,.rd c 1 []),(9,.rd (some ⟨h,0,none⟩) 61 [(kc35 a d b e c g)]),(10,.cells ((o 0).x) 60 (kc9)),(11,.cells ((o 1).x) 60 (kc9)),(13,.cells ((A 1).x) 57 (kc29))]) [(4,{ act := .load 9 0 50 [vI 30,vI 3,vI 0,vI 2,vI 0,vI 0,vI 0,vI 1,vI 0,vI 5,vI 1,vI 0,.slice none 0 0,.slice none 0 0,.slice none 0 0,vI 0,vI 0,vI 0,vI 0,vI 0,vI 0,vI 0,vI 0,vI 0,.slice none 0 0,.slice none 0 0,.slice none 0 0,vI 0,vI 0,.bool false,vI 0,.string (ByteArray.mk #[]),vI 0,vI 0,.string (ByteArray.mk #[]),vI 0,vI 0,.slice none 0 0,vI 2,.string (ByteArray.mk #[97]),.slice a 1 d,vI 0,vI 0,.slice none 0 0,.slice none 0 0,vI 0,.bool true,vI 3,vI 1,.bool false,vI 0,.string (ByteArray.mk #[97]),vI 5,vI 1,.string (ByteArray.mk #[97]),vI 3,vI 1,.slice b 1 e,vI 0,.slice c 0 g,.bool false] }),(6,{ act := .store 0 0 [],key := some 13 })] (fun _ => [h = blk (some ⟨h,0,none⟩),50 = offs (some ⟨h,0,none⟩) + (0 * 61 + 50),([(kc35 a d b e c g)] : List (List Value))[0]? = some [vI 30,vI 3,vI 0,vI 2,vI 0,vI 0,vI 0,vI 1,vI 0,vI 5,vI 1,vI 0,.slice none 0 0,.slice none 0 0,.slice none 0 0,vI 0,vI 0,vI 0,vI 0,vI 0,vI 0,vI 0,vI 0,vI 0,.slice none 0 0,.slice none 0 0,.slice none 0 0,vI 0,vI 0,.bool false,vI 0,.string (ByteArray.mk #[]),vI 0,vI 0,.string (ByteArray.mk #[]),vI 0,vI 0,.slice none 0 0,vI 2,.string (ByteArray.mk #[97]),.slice a 1 d,vI 0,vI 0,.slice none 0 0,.slice none 0 0,vI 0,.bool true,vI 3,vI 1,.bool false,vI 0,.string (ByteArray.mk #[97]),vI 5,vI 1,.string (ByteArray.mk #[97]),vI 3,vI 1,.slice b 1 e,vI 0,.slice c 0 g,.bool false],(A 1).x = (A 1).x,oC (vI 0)]) (fun _ => ⟨rfl,rfl,rfl,rfl,rfl,trivial⟩) ?_
 intro _
 refine GS.seq ?_
 refine GS.tgM (fun _ => [(0,pA z 0),(3,pA ((o 0).x) 0),(4,pA ((o 1).x) 0),(5,pA h 0),(7,pA ((A 1).x) 0),(66,.bool true)]) [(1,{ act := .load 13 0 0 [] })] (fun _ => [(A 1).x = (A 1).x]) (fun _ => ⟨rfl,trivial⟩) ?_
 intro _
 refine GS.cond (t := true) rfl rfl (fun _ => ?_) (fun hf => by cases hf)
 refine GS.region (env' := fun _ => [(0,pA z 0),(3,pA ((o 0).x) 0),(4,pA ((o 1).x) 0),(5,pA h 0),(7,pA ((A 1).x) 0)]) (mem' := fun _ => [(1,.cells z 69 (kc25 k u l v i p j q r s h)),(2,.rd k 1 [[vI 1]]),(3,.rd l 7 [(kc15)]),(4,.rd i 5 [(kc20)]),(5,.rd j 4 [(kc22 m)]),(6,.rd a 1 [[.int .u8 120]]),(7,.rd b 1 [[.int .u8 120]]),(8,.rd c 1 []),(9,.rd (some ⟨h,0,none⟩) 61 [(kc35 a d b e c g)]),(10,.cells ((o 0).x) 60 (kc9)),(11,.cells ((o 1).x) 60 (kc9)),(13,.cells ((A 1).x) 57 (kc37))]) (RunsTo.mkd [(4,{ act := .load 9 0 51 [vI 30,vI 3,vI 0,vI 2,vI 0,vI 0,vI 0,vI 1,vI 0,vI 5,vI 1,vI 0,.slice none 0 0,.slice none 0 0,.slice none 0 0,vI 0,vI 0,vI 0,vI 0,vI 0,vI 0,vI 0,vI 0,vI 0,.slice none 0 0,.slice none 0 0,.slice none 0 0,vI 0,vI 0,.bool false,vI 0,.string (ByteArray.mk #[]),vI 0,vI 0,.string (ByteArray.mk #[]),vI 0,vI 0,.slice none 0 0,vI 2,.string (ByteArray.mk #[97]),.slice a 1 d,vI 0,vI 0,.slice none 0 0,.slice none 0 0,vI 0,.bool true,vI 3,vI 1,.bool false,vI 0,.string (ByteArray.mk #[97]),vI 5,vI 1,.string (ByteArray.mk #[97]),vI 3,vI 1,.slice b 1 e,vI 0,.slice c 0 g,.bool false] }),(9,{ act := .load 9 0 47 [vI 30,vI 3,vI 0,vI 2,vI 0,vI 0,vI 0,vI 1,vI 0,vI 5,vI 1,vI 0,.slice none 0 0,.slice none 0 0,.slice none 0 0,vI 0,vI 0,vI 0,vI 0,vI 0,vI 0,vI 0,vI 0,vI 0,.slice none 0 0,.slice none 0 0,.slice none 0 0,vI 0,vI 0,.bool false,vI 0,.string (ByteArray.mk #[]),vI 0,vI 0,.string (ByteArray.mk #[]),vI 0,vI 0,.slice none 0 0,vI 2,.string (ByteArray.mk #[97]),.slice a 1 d,vI 0,vI 0,.slice none 0 0,.slice none 0 0,vI 0,.bool true,vI 3,vI 1,.bool false,vI 0,.string (ByteArray.mk #[97]),vI 5,vI 1,.string (ByteArray.mk #[97]),vI 3,vI 1,.slice b 1 e,vI 0,.slice c 0 g,.bool false] }),(12,{ act := .store 0 0 [],key := some 13 })] [0,3,4,5,7] [1,2,3,4,5,6,7,8,9,10,11,13] (fun _ => [h = blk (some ⟨h,0,none⟩),51 = offs (some ⟨h,0,none⟩) + (0 * 61 + 51),([(kc35 a d b e c g)] : List (List Value))[0]? = some [vI 30,vI 3,vI 0,vI 2,vI 0,vI 0,vI 0,vI 1,vI 0,vI 5,vI 1,vI 0,.slice none 0 0,.slice none 0 0,.slice none 0 0,vI 0,vI 0,vI 0,vI 0,vI 0,vI 0,vI 0,vI 0,vI 0,.slice none 0 0,.slice none 0 0,.slice none 0 0,vI 0,vI 0,.bool false,vI 0,.string (ByteArray.mk #[]),vI 0,vI 0,.string (ByteArray.mk #[]),vI 0,vI 0,.slice none 0 0,vI 2,.string (ByteArray.mk #[97]),.slice a 1 d,vI 0,vI 0,.slice none 0 0,.slice none 0 0,vI 0,.bool true,vI 3,vI 1,.bool false,vI 0,.string (ByteArray.mk #[97]),vI 5,vI 1,.string (ByteArray.mk #[97]),vI 3,vI 1,.slice b 1 e,vI 0,.slice c 0 g,.bool false],h = blk (some ⟨h,0,none⟩),47 = offs (some ⟨h,0,none⟩) + (0 * 61 + 47),([(kc35 a d b e c g)] : List (List Value))[0]? = some [vI 30,vI 3,vI 0,vI 2,vI 0,vI 0,vI 0,vI 1,vI 0,vI 5,vI 1,vI 0,.slice none 0 0,.slice none 0 0,.slice none 0 0,vI 0,vI 0,vI 0,vI 0,vI 0,vI 0,vI 0,vI 0,vI 0,.slice none 0 0,.slice none 0 0,.slice none 0 0,vI 0,vI 0,.bool false,vI 0,.string (ByteArray.mk #[]),vI 0,vI 0,.string (ByteArray.mk #[]),vI 0,vI 0,.slice none 0 0,vI 2,.string (ByteArray.mk #[97]),.slice a 1 d,vI 0,vI 0,.slice none 0 0,.slice none 0 0,vI 0,.bool true,vI 3,vI 1,.bool false,vI 0,.string (ByteArray.mk #[97]),vI 5,vI 1,.string (ByteArray.mk #[97]),vI 3,vI 1,.slice b 1 e,vI 0,.slice c 0 g,.bool false],(A 1).x = (A 1).x,oC (.agg ((kc36)).toArray)]) (by kernel_rfl) (by kernel_rfl) (fun _ => by kernel_rfl) (fun _ => ⟨rfl,rfl,rfl,rfl,rfl,rfl,rfl,rfl,trivial⟩)) ?_
 intro _
 refine GS.inBlock ?_
 refine GS.seq ?_
 refine bnd_elim hm (fun D C hm => ?_)
 refine GS.region (env' := fun n => [(0,pA z 0),(3,pA ((o 0).x) 0),(4,pA ((o 1).x) 0)]) (mem' := fun n => [(1,.cells z 69 (kc25 k u l v i p j q r s h)),(2,.rd k 1 [[vI 1]]),(3,.rd l 7 [(kc15)]),(4,.rd i 5 [(kc20)]),(5,.rd j 4 [(kc22 m)]),(6,.rd a 1 [[.int .u8 120]]),(7,.rd b 1 [[.int .u8 120]]),(8,.rd c 1 []),(9,.rd (some ⟨h,0,none⟩) 61 [(kc35 a d b e c g)]),(10,.cells ((o 0).x) 60 (kc42 ((n 10).ob) ((n 10).cap))),(11,.cells ((o 1).x) 60 (kc9)),(15,.osl ((n 10).ob) ((n 10).cap) 57 46 ([(kc41)] : List (List Value)))]) (RunsTo.mkd [(1,{ act := .load 10 0 0 [] }),(6,{ act := .load 9 0 0 [vI 30,vI 3,vI 0,vI 2,vI 0,vI 0,vI 0,vI 1,vI 0,vI 5,vI 1,vI 0,.slice none 0 0,.slice none 0 0,.slice none 0 0,vI 0,vI 0,vI 0,vI 0,vI 0,vI 0,vI 0,vI 0,vI 0,.slice none 0 0,.slice none 0 0,.slice none 0 0,vI 0,vI 0,.bool false,vI 0,.string (ByteArray.mk #[]),vI 0,vI 0,.string (ByteArray.mk #[]),vI 0,vI 0,.slice none 0 0,vI 2,.string (ByteArray.mk #[97]),.slice a 1 d,vI 0,vI 0,.slice none 0 0,.slice none 0 0,vI 0,.bool true,vI 3,vI 1,.bool false,vI 0,.string (ByteArray.mk #[97]),vI 5,vI 1,.string (ByteArray.mk #[97]),vI 3,vI 1,.slice b 1 e,vI 0,.slice c 0 g,.bool false] }),(7,{ act := .load 13 0 0 [] }),(8,{ act := .call [1,2,3,4,5,6,7,8,9] (.agg ((kc41)).toArray) }),(9,{ act := .new (.row 1 46),key := some 14 }),(10,{ act := .app (some 14),key := some 15,spf := some (fun f => .slice (f.ob) 1 (f.cap)) }),(12,{ act := .store 0 0 [],key := some 10 })] [0,3,4] [1,2,3,4,5,6,7,8,9,10,11,15] (fun n => [(o 0).x = (o 0).x,h = blk (some ⟨h,0,none⟩),0 = offs (some ⟨h,0,none⟩) + (0 * 61 + 0),([(kc35 a d b e c g)] : List (List Value))[0]? = some [vI 30,vI 3,vI 0,vI 2,vI 0,vI 0,vI 0,vI 1,vI 0,vI 5,vI 1,vI 0,.slice none 0 0,.slice none 0 0,.slice none 0 0,vI 0,vI 0,vI 0,vI 0,vI 0,vI 0,vI 0,vI 0,vI 0,.slice none 0 0,.slice none 0 0,.slice none 0 0,vI 0,vI 0,.bool false,vI 0,.string (ByteArray.mk #[]),vI 0,vI 0,.string (ByteArray.mk #[]),vI 0,vI 0,.slice none 0 0,vI 2,.string (ByteArray.mk #[97]),.slice a 1 d,vI 0,vI 0,.slice none 0 0,.slice none 0 0,vI 0,.bool true,vI 3,vI 1,.bool false,vI 0,.string (ByteArray.mk #[97]),vI 5,vI 1,.string (ByteArray.mk #[97]),vI 3,vI 1,.slice b 1 e,vI 0,.slice c 0 g,.bool false],(A 1).x = (A 1).x,CallOK Try.prog 24 #[pA z 0,.agg ((kc8 a d)).toArray,.agg ((kc37)).toArray] (.agg ((kc41)).toArray) [some (.cells z 69 (kc25 k u l v i p j q r s h)),some (.rd k 1 [[vI 1]]),some (.rd l 7 [(kc15)]),some (.rd i 5 [(kc20)]),some (.rd j 4 [(kc22 m)]),some (.rd a 1 [[.int .u8 120]]),some (.rd b 1 [[.int .u8 120]]),some (.rd c 1 []),some (.rd (some ⟨h,0,none⟩) 61 [(kc35 a d b e c g)])],(some (Addr.mk (n 9).x 0 none)) = (some (Addr.mk (n 9).x 0 none)),1 = ([(kc41)] : List (List Value)).length,0 = 0,0 = 0,([(kc41)] : List (List Value)).length * (552 + 1) ≤ 70368744177664,((.slice ((n 10).ob) (0 + ([(kc41)] : List (List Value)).length) ((n 10).cap)) : Value) = .slice ((n 10).ob) 1 ((n 10).cap),(o 0).x = (o 0).x,oC (.slice ((n 10).ob) 1 ((n 10).cap))]) (by kernel_rfl) (by kernel_rfl) (fun n => by kernel_rfl) (fun n => ⟨rfl,rfl,rfl,rfl,rfl,(by have h1 := w___primary_Machine__answer F z k u l v i p j q m r s h a d b e c g C; exact h1.ok ⟨(.inl ⟨.rd k 1 [[vI 1]],(.tail _ (.head _)),Cov.refl _⟩),(.inl ⟨.rd l 7 [(kc15)],(.tail _ (.tail _ (.head _))),Cov.refl _⟩),(.inl ⟨.rd i 5 [(kc20)],(.tail _ (.tail _ (.tail _ (.head _)))),Cov.refl _⟩),(.inl ⟨.rd j 4 [(kc22 m)],(.tail _ (.tail _ (.tail _ (.tail _ (.head _))))),Cov.refl _⟩),(.inl ⟨.rd a 1 [[.int .u8 120]],(.tail _ (.tail _ (.tail _ (.tail _ (.tail _ (.head _)))))),Cov.refl _⟩),(.inl ⟨.rd b 1 [[.int .u8 120]],(.tail _ (.tail _ (.tail _ (.tail _ (.tail _ (.tail _ (.head _))))))),Cov.refl _⟩),(.inl ⟨.rd c 1 [],(.tail _ (.tail _ (.tail _ (.tail _ (.tail _ (.tail _ (.tail _ (.head _)))))))),Cov.refl _⟩),(.inl ⟨.rd (some ⟨h,0,none⟩) 61 [(kc35 a d b e c g)],(.tail _ (.tail _ (.tail _ (.tail _ (.tail _ (.tail _ (.tail _ (.tail _ (.head _))))))))),Cov.refl _⟩),(.inl ⟨.cells z 69 (kc25 k u l v i p j q r s h),.head _,Cov.cells_rd⟩),trivial⟩),rfl,rfl,rfl,rfl,(show 1 * (552 + 1) ≤ 70368744177664 by decide),rfl,rfl,rfl,trivial⟩)) ?_
 intro n
 refine GS.conv (mem' := [(1,.cells z 69 (kc25 k u l v i p j q r s h)),(2,.rd k 1 [[vI 1]]),(3,.rd l 7 [(kc15)]),(4,.rd i 5 [(kc20)]),(5,.rd j 4 [(kc22 m)]),(6,.rd a 1 [[.int .u8 120]]),(7,.rd b 1 [[.int .u8 120]]),(8,.rd c 1 []),(9,.rd (some ⟨h,0,none⟩) 61 [(kc35 a d b e c g)]),(10,.cells ((o 0).x) 60 (kc42 ((n 10).ob) ((n 10).cap))),(11,.cells ((o 1).x) 60 (kc9)),(15,.osl ((n 10).ob) ((n 10).cap) 57 46 [(kc41)])]) rfl (congrArg (fun rr : List (List Value) => ([(1,.cells z 69 (kc25 k u l v i p j q r s h)),(2,.rd k 1 [[vI 1]]),(3,.rd l 7 [(kc15)]),(4,.rd i 5 [(kc20)]),(5,.rd j 4 [(kc22 m)]),(6,.rd a 1 [[.int .u8 120]]),(7,.rd b 1 [[.int .u8 120]]),(8,.rd c 1 []),(9,.rd (some ⟨h,0,none⟩) 61 [(kc35 a d b e c g)]),(10,.cells ((o 0).x) 60 (kc42 ((n 10).ob) ((n 10).cap))),(11,.cells ((o 1).x) 60 (kc9)),(15,.osl ((n 10).ob) ((n 10).cap) 57 46 rr)] : List (Nat × Ent))) (show ([(kc41)] : List (List Value)) = ([(kc41)] : List (List Value)) from rfl)) ?_
 refine GS.seq ?_
 refine GS.tg (fun _ => [(3,pA ((o 0).x) 0),(4,pA ((o 1).x) 0)]) (fun _ => [(1,.cells z 69 (kc24 k u l v i p j q r s)),(2,.rd k 1 [[vI 1]]),(3,.rd l 7 [(kc15)]),(4,.rd i 5 [(kc20)]),(5,.rd j 4 [(kc22 m)]),(10,.cells ((o 0).x) 60 (kc42 ((n 10).ob) ((n 10).cap))),(11,.cells ((o 1).x) 60 (kc9)),(15,.osl ((n 10).ob) ((n 10).cap) 57 46 [(kc41)])]) [(3,{ act := .store 0 0 [],key := some 1 })] (fun _ => [z = z,oC (.pointer none)]) (fun _ => ⟨rfl,rfl,trivial⟩) ?_
 intro _
 refine GS.seq ?_
 refine GS.tg (fun _ => [(4,pA ((o 1).x) 0)]) (fun _ => [(1,.cells z 69 (kc24 k u l v i p j q r s)),(2,.rd k 1 [[vI 1]]),(3,.rd l 7 [(kc15)]),(4,.rd i 5 [(kc20)]),(5,.rd j 4 [(kc22 m)]),(11,.cells ((o 1).x) 60 (kc42 ((n 10).ob) ((n 10).cap))),(15,.osl ((n 10).ob) ((n 10).cap) 57 46 [(kc41)])]) [(0,{ act := .load 10 0 0 [] }),(1,{ act := .store 0 0 [],key := some 11 })] (fun _ => [(o 0).x = (o 0).x,(o 1).x = (o 1).x,oC (.agg ((kc42 ((n 10).ob) ((n 10).cap))).toArray)]) (fun _ => ⟨rfl,rfl,rfl,trivial⟩) ?_
 intro _
 have hy := Option.some.inj hm
 subst hy
 refine GS.ret (fn := Try.f29) [11] [.agg ((kc42 ((n 10).ob) ((n 10).cap))).toArray] [(o 1).x = (o 1).x] rfl Try.func29 (by kernel_rfl) ⟨rfl,trivial⟩ (fun w' hs => ?_)
 exact ⟨⟨(n 10).ob,(n 10).cap⟩,rfl,hs.turnedG (ks := [1,15]) rfl rfl⟩

theorem w___primary_Machine__begin_2 (F n : Nat) (c : Option Addr) (j : Nat) (d : Option Addr) (k : Nat) (a : Option Addr) (e : Nat) (b : Option Addr) (f : Nat) (l : Int) (g : Option Addr) (h : Nat) (i : Option Addr) (m : Nat) {y : Unit} (hm : m___primary_Machine__begin_2 F l = some y) : CallG Try.prog 27 #[pA n 0,.agg ((kc42 i m)).toArray] (X := Unit) (fun (_ : Unit) => .agg ((kc42 i m)).toArray) [] [.rd c 1 [[vI 1]],.rd d 7 [(kc15)],.rd a 5 [(kc20)],.rd b 4 [(kc22 l)],.rd (some ⟨n,0,none⟩) 17 [(kc24 c j d k a e b f g h)],.rd i 46 [(kc41)]] (fun (_ : Unit) => []) := by
 intro w hg
 rw [m___primary_Machine__begin_2] at hm
 refine GS.start (S := mayT [] [.rd c 1 [[vI 1]],.rd d 7 [(kc15)],.rd a 5 [(kc20)],.rd b 4 [(kc22 l)],.rd (some ⟨n,0,none⟩) 17 [(kc24 c j d k a e b f g h)],.rd i 46 [(kc41)]]) (mem := [(1,.rd c 1 [[vI 1]]),(2,.rd d 7 [(kc15)]),(3,.rd a 5 [(kc20)]),(4,.rd b 4 [(kc22 l)]),(5,.rd (some ⟨n,0,none⟩) 17 [(kc24 c j d k a e b f g h)]),(6,.rd i 46 [(kc41)])]) Try.func27 rfl Try.ntmps27 (Nat.le_of_ble_eq_true rfl) (hg.start rfl) ?_
 refine GS.conv (env' := [(0,pA n 0),(1,.agg ((kc42 i m)).toArray)]) rfl rfl ?_
 refine GS.seq ?_
 refine GS.tz (fun o => [(0,pA n 0),(3,pA ((o 0).x) 0),(4,pA ((o 1).x) 0)]) (fun o => [(1,.rd c 1 [[vI 1]]),(2,.rd d 7 [(kc15)]),(3,.rd a 5 [(kc20)]),(4,.rd b 4 [(kc22 l)]),(5,.rd (some ⟨n,0,none⟩) 17 [(kc24 c j d k a e b f g h)]),(6,.rd i 46 [(kc41)]),(7,.cells ((o 0).x) 60 (kc42 i m)),(8,.cells ((o 1).x) 60 (kc9))]) [(0,{ act := .new .var,key := some 7 }),(1,{ act := .new .var,key := some 8 })] ?_
 intro o
 refine GS.seq ?_
 refine GS.block ?_
 refine GS.loop ?_
 refine GS.seq ?_
 refine GS.seq ?_
 refine GS.tgM (fun _ => [(0,pA n 0),(3,pA ((o 0).x) 0),(4,pA ((o 1).x) 0),(35,.bool false)]) [(3,{ act := .load 5 0 13 [vI 1,vI 0,vI 3,vI 0,vI 9,.slice c 1 j,vI 3,vI 0,vI 0,.slice d 1 k,.slice a 1 e,.slice b 1 f,.slice g 0 h,.pointer none,.bool false,vI 0,.bool true] }),(9,{ act := .load 5 0 14 [vI 1,vI 0,vI 3,vI 0,vI 9,.slice c 1 j,vI 3,vI 0,vI 0,.slice d 1 k,.slice a 1 e,.slice b 1 f,.slice g 0 h,.pointer none,.bool false,vI 0,.bool true] }),(16,{ act := .load 5 0 12 [vI 1,vI 0,vI 3,vI 0,vI 9,.slice c 1 j,vI 3,vI 0,vI 0,.slice d 1 k,.slice a 1 e,.slice b 1 f,.slice g 0 h,.pointer none,.bool false,vI 0,.bool true] })] (fun _ => [n = blk (some ⟨n,0,none⟩),13 = offs (some ⟨n,0,none⟩) + (0 * 17 + 13),([(kc24 c j d k a e b f g h)] : List (List Value))[0]? = some [vI 1,vI 0,vI 3,vI 0,vI 9,.slice c 1 j,vI 3,vI 0,vI 0,.slice d 1 k,.slice a 1 e,.slice b 1 f,.slice g 0 h,.pointer none,.bool false,vI 0,.bool true],n = blk (some ⟨n,0,none⟩),14 = offs (some ⟨n,0,none⟩) + (0 * 17 + 14),([(kc24 c j d k a e b f g h)] : List (List Value))[0]? = some [vI 1,vI 0,vI 3,vI 0,vI 9,.slice c 1 j,vI 3,vI 0,vI 0,.slice d 1 k,.slice a 1 e,.slice b 1 f,.slice g 0 h,.pointer none,.bool false,vI 0,.bool true],n = blk (some ⟨n,0,none⟩),12 = offs (some ⟨n,0,none⟩) + (0 * 17 + 12),([(kc24 c j d k a e b f g h)] : List (List Value))[0]? = some [vI 1,vI 0,vI 3,vI 0,vI 9,.slice c 1 j,vI 3,vI 0,vI 0,.slice d 1 k,.slice a 1 e,.slice b 1 f,.slice g 0 h,.pointer none,.bool false,vI 0,.bool true]]) (fun _ => ⟨rfl,rfl,rfl,rfl,rfl,rfl,rfl,rfl,rfl,trivial⟩) ?_
 intro _
 refine GS.cond (t := false) rfl rfl (fun hf => by cases hf) (fun _ => ?_)
 refine GS.exit rfl ?_
 refine GS.seq ?_
 refine GS.tg (fun _ => [(4,pA ((o 1).x) 0)]) (fun _ => [(6,.rd i 46 [(kc41)]),(8,.cells ((o 1).x) 60 (kc42 i m))]) [(0,{ act := .load 7 0 0 [] }),(1,{ act := .store 0 0 [],key := some 8 })] (fun _ => [(o 0).x = (o 0).x,(o 1).x = (o 1).x,oC (.agg ((kc42 i m)).toArray)]) (fun _ => ⟨rfl,rfl,rfl,trivial⟩) ?_
 intro _
 have hy := Option.some.inj hm
 subst hy
 refine GS.ret (fn := Try.f27) [8] [.agg ((kc42 i m)).toArray] [(o 1).x = (o 1).x] rfl Try.func27 (by kernel_rfl) ⟨rfl,trivial⟩ (fun w' hs => ?_)
 exact ⟨(),rfl,hs.turnedG (ks := []) rfl rfl⟩

theorem w___primary_Machine__acked (F B : Nat) (k : Option Addr) (u : Nat) (l : Option Addr) (z : Nat) (f : Option Addr) (p : Nat) (j : Option Addr) (q : Nat) (m : Int) (r : Option Addr) (s e : Nat) (c : Option Addr) (n : Nat) (d : Option Addr) (o : Nat) (a : Option Addr) (b : Nat) (E : 1 ≤ b) {y : Unit} (hm : m___primary_Machine__acked F m = some y) : CallG Try.prog 13 #[pA B 0,.agg ((kc34)).toArray] (X := Option Addr × Nat × Option Addr × Nat) (fun ⟨x0,x1,x2,x3⟩ => .agg ((kc42 x2 x3)).toArray) [.osl a b 3 1 [[vI 1]],.cells e 87 (kc18 c n d o a b),.cells B 69 (kc25 k u l z f p j q r s e)] [.rd k 1 [[vI 1]],.rd l 7 [(kc15)],.rd f 5 [(kc20)],.rd j 4 [(kc22 m)],.rd c 1 [[.int .u8 120]],.rd d 1 [[.int .u8 120]]] (fun ⟨x0,x1,x2,x3⟩ => [.osl a b 3 1 [],.cells e 87 (kc35 c n d o a b),.cells B 69 (kc24 k u l z f p j q x0 x1),.osl x2 x3 57 46 [(kc41)]]) := by
 intro w hg
 rw [m___primary_Machine__acked] at hm
 refine GS.start (S := mayT [.osl a b 3 1 [[vI 1]],.cells e 87 (kc18 c n d o a b),.cells B 69 (kc25 k u l z f p j q r s e)] [.rd k 1 [[vI 1]],.rd l 7 [(kc15)],.rd f 5 [(kc20)],.rd j 4 [(kc22 m)],.rd c 1 [[.int .u8 120]],.rd d 1 [[.int .u8 120]]]) (mem := [(1,.osl a b 3 1 [[vI 1]]),(2,.cells e 87 (kc18 c n d o a b)),(3,.cells B 69 (kc25 k u l z f p j q r s e)),(4,.rd k 1 [[vI 1]]),(5,.rd l 7 [(kc15)]),(6,.rd f 5 [(kc20)]),(7,.rd j 4 [(kc22 m)]),(8,.rd c 1 [[.int .u8 120]]),(9,.rd d 1 [[.int .u8 120]])]) Try.func13 rfl Try.ntmps13 (Nat.le_of_ble_eq_true rfl) (hg.start rfl) ?_
 refine GS.conv (env' := [(0,pA B 0),(1,.agg ((kc34)).toArray)]) rfl rfl ?_
 refine GS.seq ?_
 refine GS.tz (fun A => [(0,pA B 0),(3,pA ((A 0).x) 0),(4,pA ((A 1).x) 0)]) (fun A => [(1,.osl a b 3 1 [[vI 1]]),(2,.cells e 87 (kc18 c n d o a b)),(3,.cells B 69 (kc25 k u l z f p j q r s e)),(4,.rd k 1 [[vI 1]]),(5,.rd l 7 [(kc15)]),(6,.rd f 5 [(kc20)]),(7,.rd j 4 [(kc22 m)]),(8,.rd c 1 [[.int .u8 120]]),(9,.rd d 1 [[.int .u8 120]]),(10,.cells ((A 0).x) 57 (kc34)),(11,.cells ((A 1).x) 60 (kc9))]) [(0,{ act := .new .var,key := some 10 }),(1,{ act := .new .var,key := some 11 })] ?_
 intro A
 refine GS.seq ?_
 refine GS.tgM (fun _ => [(0,pA B 0),(3,pA ((A 0).x) 0),(4,pA ((A 1).x) 0),(5,pA e 0)]) [(3,{ act := .load 3 0 0 [] })] (fun _ => [B = B]) (fun _ => ⟨rfl,trivial⟩) ?_
 intro _
 refine GS.seq ?_
 refine GS.seq ?_
 refine GS.rM (env' := fun _ => [(0,pA B 0),(3,pA ((A 0).x) 0),(4,pA ((A 1).x) 0),(5,pA e 0),(34,.bool false)]) (RunsTo.mkd [(6,{ act := .load 2 0 0 [] }),(10,{ act := .load 10 0 0 [] }),(14,{ act := .load 3 0 0 [] }),(20,{ act := .load 10 0 0 [] })] [0,3,4,5,34] [1,2,3,4,5,6,7,8,9,10,11] (fun _ => [e = e,(A 0).x = (A 0).x,B = B,(A 0).x = (A 0).x]) (by kernel_rfl) (by kernel_rfl) (fun _ => by kernel_rfl) (fun _ => ⟨rfl,rfl,rfl,rfl,trivial⟩)) ?_
 intro _
 refine GS.cond (t := false) rfl rfl (fun hf => by cases hf) (fun _ => ?_)
 refine GS.skip ?_
 refine GS.seq ?_
 refine bnd_elim hm (fun y5 e6 hm => ?_)
 refine GS.rM (env' := fun _ => [(0,pA B 0),(3,pA ((A 0).x) 0),(4,pA ((A 1).x) 0),(5,pA e 0),(6,vI 0)]) (RunsTo.mkd [(3,{ act := .load 2 0 0 [] }),(6,{ act := .load 10 0 0 [] }),(7,{ act := .call [1] (vI 0) })] [0,3,4,5,6] [1,2,3,4,5,6,7,8,9,10,11] (fun _ => [e = e,(A 0).x = (A 0).x,CallOK Try.prog 14 #[.slice a 1 b,vI 1] (vI 0) [some (.osl a b 3 1 [[vI 1]])]]) (by kernel_rfl) (by kernel_rfl) (fun _ => by kernel_rfl) (fun _ => ⟨rfl,rfl,(by have h1 := w_slices_Index___int_int__2 F a b e6; exact h1.ok ⟨(.inl ⟨.osl a b 3 1 [[vI 1]],.head _,Cov.osl_rd⟩),trivial⟩),trivial⟩)) ?_
 intro _
 refine GS.seq ?_
 refine GS.region (env' := fun _ => [(0,pA B 0),(4,pA ((A 1).x) 0),(5,pA e 0),(6,vI 0),(7,.bool true)]) (mem' := fun _ => [(1,.osl a b 3 1 [[vI 1]]),(2,.cells e 87 (kc18 c n d o a b)),(3,.cells B 69 (kc25 k u l z f p j q r s e)),(4,.rd k 1 [[vI 1]]),(5,.rd l 7 [(kc15)]),(6,.rd f 5 [(kc20)]),(7,.rd j 4 [(kc22 m)]),(8,.rd c 1 [[.int .u8 120]]),(9,.rd d 1 [[.int .u8 120]]),(11,.cells ((A 1).x) 60 (kc9))]) (RunsTo.mkd [(1,{ act := .load 10 0 0 [] }),(7,{ act := .load 2 0 0 [] }),(12,{ act := .load 10 0 0 [] }),(17,{ act := .load 2 0 0 [] }),(18,{ act := .eq,sp := some (.bool true) })] [0,4,5,6,7] [1,2,3,4,5,6,7,8,9,11] (fun _ => [(A 0).x = (A 0).x,e = e,(A 0).x = (A 0).x,e = e,((.bool (S_api_Version.beq (S_api_Version.mk 3 1) (S_api_Version.mk 3 1))) : Value) = .bool true]) (by kernel_rfl) (by kernel_rfl) (fun _ => by kernel_rfl) (fun _ => ⟨rfl,rfl,rfl,rfl,(by kernel_rfl),trivial⟩)) ?_
 intro _
 refine GS.seq ?_
 refine GS.seq ?_
 refine GS.tzM (fun _ => [(0,pA B 0),(4,pA ((A 1).x) 0),(5,pA e 0),(6,vI 0),(90,.bool false)]) [] ?_
 intro _
 refine GS.cond (t := false) rfl rfl (fun hf => by cases hf) (fun _ => ?_)
 refine GS.skip ?_
 refine GS.seq ?_
 refine bnd_elim hm (fun J G hm => ?_)
 refine GS.open_ ?_
 refine GR.rM (i := 0) 8 (env' := fun _ => [(0,pA B 0),(4,pA ((A 1).x) 0),(92,pA e 0),(96,.slice a 1 b),(97,vI 0),(99,vI 1)]) (by kernel_rfl) (RunsTo.mk [(4,{ act := .load 2 0 0 [] })] [0,4,92,96,97,99] [1,2,3,4,5,6,7,8,9,11] (fun _ => [e = e]) (fun _ => by kernel_rfl) (fun _ => ⟨rfl,trivial⟩)) ?_
 intro _
 refine GR.callG (X := Unit) (i := 8) (g := 28) (args := #[.slice a 1 b,vI 0,vI 1]) (v := fun (_ : Unit) => .slice a 0 b) (own := [.osl a b 3 1 [[vI 1]]]) (ro := []) (es' := fun (_ : Unit) => [.osl a b 3 1 []]) (mem' := fun (_ : Unit) => [(1,.osl a b 3 1 []),(2,.cells e 87 (kc18 c n d o a b)),(3,.cells B 69 (kc25 k u l z f p j q r s e)),(4,.rd k 1 [[vI 1]]),(5,.rd l 7 [(kc15)]),(6,.rd f 5 [(kc20)]),(7,.rd j 4 [(kc22 m)]),(8,.rd c 1 [[.int .u8 120]]),(9,.rd d 1 [[.int .u8 120]]),(11,.cells ((A 1).x) 60 (kc9))]) (env' := fun (_ : Unit) => [(0,pA B 0),(4,pA ((A 1).x) 0),(92,pA e 0),(100,.slice a 0 b)]) [1] [1] [0,4,92,100] [1,2,3,4,5,6,7,8,9,11] false (by kernel_rfl) (by kernel_rfl) (by kernel_rfl) (by kernel_rfl) (by kernel_rfl) (fun _ => rfl) (fun _ _ => rfl) trivial (by rintro _; kernel_rfl) (by rintro _; kernel_rfl) ((by have h1 := w_slices_Delete___int_int_ F a b E G; exact h1)) ?_
 rintro _
 refine GR.ru (i := 9) 3 (env' := fun _ => [(0,pA B 0),(4,pA ((A 1).x) 0)]) (mem' := fun _ => [(1,.osl a b 3 1 []),(2,.cells e 87 (kc35 c n d o a b)),(3,.cells B 69 (kc25 k u l z f p j q r s e)),(4,.rd k 1 [[vI 1]]),(5,.rd l 7 [(kc15)]),(6,.rd f 5 [(kc20)]),(7,.rd j 4 [(kc22 m)]),(8,.rd c 1 [[.int .u8 120]]),(9,.rd d 1 [[.int .u8 120]]),(11,.cells ((A 1).x) 60 (kc9))]) (by kernel_rfl) (RunsTo.mk [(11,{ act := .store 0 0 [],key := some 2 })] [0,4] [1,2,3,4,5,6,7,8,9,11] (fun _ => [e = e,oC (.slice a 0 b)]) (fun _ => by kernel_rfl) (fun _ => ⟨rfl,rfl,trivial⟩)) ?_
 intro _
 refine GR.dn (by kernel_rfl) ?_
 refine GS.seq ?_
 refine bnd_elim hm (fun K H hm => ?_)
 refine GS.open_ ?_
 refine GR.rM (i := 0) 3 (env' := fun _ => [(4,pA ((A 1).x) 0),(103,pA B 0),(104,pA B 0),(105,.agg ((kc9)).toArray)]) (by kernel_rfl) (RunsTo.mk [] [4,103,104,105] [1,2,3,4,5,6,7,8,9,11] (fun _ => []) (fun _ => by kernel_rfl) (fun _ => trivial)) ?_
 intro _
 refine GR.callG (X := Option Addr × Nat) (i := 3) (g := 29) (args := #[pA B 0,.agg ((kc9)).toArray]) (v := fun ⟨C,D⟩ => .agg ((kc42 C D)).toArray) (own := [.cells B 69 (kc25 k u l z f p j q r s e)]) (ro := [.rd k 1 [[vI 1]],.rd l 7 [(kc15)],.rd f 5 [(kc20)],.rd j 4 [(kc22 m)],.rd c 1 [[.int .u8 120]],.rd d 1 [[.int .u8 120]],.rd a 1 [],.rd (some ⟨e,0,none⟩) 61 [(kc35 c n d o a b)]]) (es' := fun ⟨C,D⟩ => [.cells B 69 (kc24 k u l z f p j q r s),.osl C D 57 46 [(kc41)]]) (mem' := fun ⟨C,D⟩ => [(1,.osl a b 3 1 []),(2,.cells e 87 (kc35 c n d o a b)),(3,.cells B 69 (kc24 k u l z f p j q r s)),(4,.rd k 1 [[vI 1]]),(5,.rd l 7 [(kc15)]),(6,.rd f 5 [(kc20)]),(7,.rd j 4 [(kc22 m)]),(8,.rd c 1 [[.int .u8 120]]),(9,.rd d 1 [[.int .u8 120]]),(11,.cells ((A 1).x) 60 (kc9)),(12,.osl C D 57 46 [(kc41)])]) (env' := fun ⟨C,D⟩ => [(4,pA ((A 1).x) 0),(103,pA B 0),(106,.agg ((kc42 C D)).toArray)]) [3] [3,12] [4,103,106] [1,2,3,4,5,6,7,8,9,11,12] false (by kernel_rfl) (by kernel_rfl) (by kernel_rfl) (by kernel_rfl) (by kernel_rfl) (fun _ => rfl) (fun _ _ => rfl) ⟨(.inl ⟨4,_,rfl,rfl,Cov.refl _,fun h => by cases h⟩),(.inl ⟨5,_,rfl,rfl,Cov.refl _,fun h => by cases h⟩),(.inl ⟨6,_,rfl,rfl,Cov.refl _,fun h => by cases h⟩),(.inl ⟨7,_,rfl,rfl,Cov.refl _,fun h => by cases h⟩),(.inl ⟨8,_,rfl,rfl,Cov.refl _,fun h => by cases h⟩),(.inl ⟨9,_,rfl,rfl,Cov.refl _,fun h => by cases h⟩),(.inl ⟨1,_,rfl,rfl,Cov.osl_rd,fun h => by cases h⟩),(.inl ⟨2,_,rfl,rfl,Cov.cells_rd,fun h => by cases h⟩),trivial⟩ (by rintro ⟨C,D⟩; kernel_rfl) (by rintro ⟨C,D⟩; kernel_rfl) ((by have h1 := w___primary_Machine__done_2 F B k u l z f p j q m r s e c n d o a b H; exact h1)) ?_
 rintro ⟨C,D⟩
 refine bnd_elim hm (fun L I hm => ?_)
 refine GR.ru (i := 4) 2 (env' := fun _ => [(4,pA ((A 1).x) 0)]) (mem' := fun _ => [(1,.osl a b 3 1 []),(2,.cells e 87 (kc35 c n d o a b)),(3,.cells B 69 (kc24 k u l z f p j q r s)),(4,.rd k 1 [[vI 1]]),(5,.rd l 7 [(kc15)]),(6,.rd f 5 [(kc20)]),(7,.rd j 4 [(kc22 m)]),(8,.rd c 1 [[.int .u8 120]]),(9,.rd d 1 [[.int .u8 120]]),(11,.cells ((A 1).x) 60 (kc42 C D)),(12,.osl C D 57 46 [(kc41)])]) (by kernel_rfl) (RunsTo.mk [(4,{ act := .call [3,4,5,6,7,12] (.agg ((kc42 C D)).toArray) }),(5,{ act := .store 0 0 [],key := some 11 })] [4] [1,2,3,4,5,6,7,8,9,11,12] (fun _ => [CallOK Try.prog 27 #[pA B 0,.agg ((kc42 C D)).toArray] (.agg ((kc42 C D)).toArray) [some (.cells B 69 (kc24 k u l z f p j q r s)),some (.rd k 1 [[vI 1]]),some (.rd l 7 [(kc15)]),some (.rd f 5 [(kc20)]),some (.rd j 4 [(kc22 m)]),some (.osl C D 57 46 [(kc41)])],(A 1).x = (A 1).x,oC (.agg ((kc42 C D)).toArray)]) (fun _ => by kernel_rfl) (fun _ => ⟨(by have h1 := w___primary_Machine__begin_2 F B k u l z f p j q m r s C D I; exact h1.ok ⟨(.inl ⟨.rd k 1 [[vI 1]],(.tail _ (.head _)),Cov.refl _⟩),(.inl ⟨.rd l 7 [(kc15)],(.tail _ (.tail _ (.head _))),Cov.refl _⟩),(.inl ⟨.rd f 5 [(kc20)],(.tail _ (.tail _ (.tail _ (.head _)))),Cov.refl _⟩),(.inl ⟨.rd j 4 [(kc22 m)],(.tail _ (.tail _ (.tail _ (.tail _ (.head _))))),Cov.refl _⟩),(.inl ⟨.cells B 69 (kc24 k u l z f p j q r s),.head _,Cov.cells_rd⟩),(.inl ⟨.osl C D 57 46 [(kc41)],(.tail _ (.tail _ (.tail _ (.tail _ (.tail _ (.head _)))))),Cov.osl_rd⟩),trivial⟩),rfl,rfl,trivial⟩)) ?_
 intro _
 refine GR.dn (by kernel_rfl) ?_
 have hy := Option.some.inj hm
 subst hy
 refine GS.ret (fn := Try.f13) [11] [.agg ((kc42 C D)).toArray] [(A 1).x = (A 1).x] rfl Try.func13 (by kernel_rfl) ⟨rfl,trivial⟩ (fun w' hs => ?_)
 exact ⟨⟨r,s,C,D⟩,rfl,hs.turnedG (ks := [1,2,3,12]) rfl rfl⟩

theorem w___primary_Machine__Step_2 (F z : Nat) (l : Option Addr) (s : Nat) (m : Option Addr) (u : Nat) (e : Option Addr) (p : Nat) (f : Option Addr) (q : Nat) (o : Int) (A : Option Addr) (B n : Nat) (c : Option Addr) (j : Nat) (d : Option Addr) (k : Nat) (b : Option Addr) (a : Nat) (G : 1 ≤ a) {y : Unit} (hm : m___primary_Machine__Step_2 F o = some y) : CallG Try.prog 7 #[pA z 0,.agg ((kc34)).toArray] (X := Option Addr × Nat × Option Addr × Nat) (fun ⟨x0,x1,x2,x3⟩ => .agg ((kc42 x2 x3)).toArray) [.osl b a 3 1 [[vI 1]],.cells n 87 (kc18 c j d k b a),.cells z 69 (kc25 l s m u e p f q A B n)] [.rd l 1 [[vI 1]],.rd m 7 [(kc15)],.rd e 5 [(kc20)],.rd f 4 [(kc22 o)],.rd c 1 [[.int .u8 120]],.rd d 1 [[.int .u8 120]]] (fun ⟨x0,x1,x2,x3⟩ => [.osl b a 3 1 [],.cells n 87 (kc35 c j d k b a),.cells z 69 (kc24 l s m u e p f q x0 x1),.osl x2 x3 57 46 [(kc41)]]) := by
 intro w hg
 rw [m___primary_Machine__Step_2] at hm
 refine GS.start (S := mayT [.osl b a 3 1 [[vI 1]],.cells n 87 (kc18 c j d k b a),.cells z 69 (kc25 l s m u e p f q A B n)] [.rd l 1 [[vI 1]],.rd m 7 [(kc15)],.rd e 5 [(kc20)],.rd f 4 [(kc22 o)],.rd c 1 [[.int .u8 120]],.rd d 1 [[.int .u8 120]]]) (mem := [(1,.osl b a 3 1 [[vI 1]]),(2,.cells n 87 (kc18 c j d k b a)),(3,.cells z 69 (kc25 l s m u e p f q A B n)),(4,.rd l 1 [[vI 1]]),(5,.rd m 7 [(kc15)]),(6,.rd e 5 [(kc20)]),(7,.rd f 4 [(kc22 o)]),(8,.rd c 1 [[.int .u8 120]]),(9,.rd d 1 [[.int .u8 120]])]) Try.func7 rfl Try.ntmps7 (Nat.le_of_ble_eq_true rfl) (hg.start rfl) ?_
 refine GS.conv (env' := [(0,pA z 0),(1,.agg ((kc34)).toArray)]) rfl rfl ?_
 refine GS.seq ?_
 refine GS.tz (fun r => [(0,pA z 0),(3,pA ((r 0).x) 0),(4,pA ((r 1).x) 0)]) (fun r => [(1,.osl b a 3 1 [[vI 1]]),(2,.cells n 87 (kc18 c j d k b a)),(3,.cells z 69 (kc25 l s m u e p f q A B n)),(4,.rd l 1 [[vI 1]]),(5,.rd m 7 [(kc15)]),(6,.rd e 5 [(kc20)]),(7,.rd f 4 [(kc22 o)]),(8,.rd c 1 [[.int .u8 120]]),(9,.rd d 1 [[.int .u8 120]]),(10,.cells ((r 0).x) 57 (kc34)),(11,.cells ((r 1).x) 60 (kc9))]) [(0,{ act := .new .var,key := some 10 }),(1,{ act := .new .var,key := some 11 })] ?_
 intro r
 refine GS.seq ?_
 refine GS.seq ?_
 refine GS.rM (env' := fun _ => [(0,pA z 0),(3,pA ((r 0).x) 0),(4,pA ((r 1).x) 0),(32,.bool false)]) (RunsTo.mkd [(6,{ act := .load 3 0 0 [] }),(11,{ act := .load 10 0 0 [] }),(15,{ act := .load 3 0 0 [] }),(17,{ act := .eq,sp := some (.bool false) }),(21,{ act := .load 10 0 0 [] }),(25,{ act := .load 3 0 0 [] }),(26,{ act := .eq,sp := some (.bool false) })] [0,3,4,32] [1,2,3,4,5,6,7,8,9,10,11] (fun _ => [z = z,(r 0).x = (r 0).x,z = z,((.bool (!(S_api_Node.beq (S_api_Node.mk 2 0) (S_api_Node.mk 2 0)))) : Value) = .bool false,(r 0).x = (r 0).x,z = z,((.bool (!(S_api_Pg.beq (S_api_Pg.mk 1 0) (S_api_Pg.mk 1 0)))) : Value) = .bool false]) (by kernel_rfl) (by kernel_rfl) (fun _ => by kernel_rfl) (fun _ => ⟨rfl,rfl,rfl,(by kernel_rfl),rfl,rfl,(by kernel_rfl),trivial⟩)) ?_
 intro _
 refine GS.cond (t := false) rfl rfl (fun hf => by cases hf) (fun _ => ?_)
 refine GS.skip ?_
 refine GS.seq ?_
 refine GS.seq ?_
 refine GS.tgM (fun _ => [(0,pA z 0),(3,pA ((r 0).x) 0),(4,pA ((r 1).x) 0),(35,vI 33)]) [(1,{ act := .load 10 0 0 [] })] (fun _ => [(r 0).x = (r 0).x]) (fun _ => ⟨rfl,trivial⟩) ?_
 intro _
 refine GS.block ?_
 refine GS.seq ?_
 refine GS.tzM (fun _ => [(0,pA z 0),(3,pA ((r 0).x) 0),(4,pA ((r 1).x) 0),(35,vI 33),(36,.bool false)]) [] ?_
 intro _
 refine GS.cond (t := false) rfl rfl (fun hf => by cases hf) (fun _ => ?_)
 refine GS.seq ?_
 refine GS.seq ?_
 refine GS.tzM (fun _ => [(0,pA z 0),(3,pA ((r 0).x) 0),(4,pA ((r 1).x) 0),(35,vI 33),(41,.bool true)]) [] ?_
 intro _
 refine GS.cond (t := true) rfl rfl (fun _ => ?_) (fun hf => by cases hf)
 refine GS.skip ?_
 refine GS.cond (t := true) rfl rfl (fun _ => ?_) (fun hf => by cases hf)
 refine GS.seq ?_
 refine bnd_elim hm (fun y7 e8 hm => ?_)
 refine GS.open_ ?_
 refine GR.ru (i := 0) 2 (env' := fun _ => [(4,pA ((r 1).x) 0),(44,pA z 0),(45,.agg ((kc34)).toArray)]) (mem' := fun _ => [(1,.osl b a 3 1 [[vI 1]]),(2,.cells n 87 (kc18 c j d k b a)),(3,.cells z 69 (kc25 l s m u e p f q A B n)),(4,.rd l 1 [[vI 1]]),(5,.rd m 7 [(kc15)]),(6,.rd e 5 [(kc20)]),(7,.rd f 4 [(kc22 o)]),(8,.rd c 1 [[.int .u8 120]]),(9,.rd d 1 [[.int .u8 120]]),(11,.cells ((r 1).x) 60 (kc9))]) (by kernel_rfl) (RunsTo.mk [(1,{ act := .load 10 0 0 [] })] [4,44,45] [1,2,3,4,5,6,7,8,9,11] (fun _ => [(r 0).x = (r 0).x]) (fun _ => by kernel_rfl) (fun _ => ⟨rfl,trivial⟩)) ?_
 intro _
 refine GR.callG (X := Option Addr × Nat × Option Addr × Nat) (i := 2) (g := 13) (args := #[pA z 0,.agg ((kc34)).toArray]) (v := fun ⟨x9,E,C,D⟩ => .agg ((kc42 C D)).toArray) (own := [.osl b a 3 1 [[vI 1]],.cells n 87 (kc18 c j d k b a),.cells z 69 (kc25 l s m u e p f q A B n)]) (ro := [.rd l 1 [[vI 1]],.rd m 7 [(kc15)],.rd e 5 [(kc20)],.rd f 4 [(kc22 o)],.rd c 1 [[.int .u8 120]],.rd d 1 [[.int .u8 120]]]) (es' := fun ⟨x9,E,C,D⟩ => [.osl b a 3 1 [],.cells n 87 (kc35 c j d k b a),.cells z 69 (kc24 l s m u e p f q x9 E),.osl C D 57 46 [(kc41)]]) (mem' := fun ⟨x9,E,C,D⟩ => [(1,.osl b a 3 1 []),(2,.cells n 87 (kc35 c j d k b a)),(3,.cells z 69 (kc24 l s m u e p f q x9 E)),(4,.rd l 1 [[vI 1]]),(5,.rd m 7 [(kc15)]),(6,.rd e 5 [(kc20)]),(7,.rd f 4 [(kc22 o)]),(8,.rd c 1 [[.int .u8 120]]),(9,.rd d 1 [[.int .u8 120]]),(11,.cells ((r 1).x) 60 (kc9)),(12,.osl C D 57 46 [(kc41)])]) (env' := fun ⟨x9,E,C,D⟩ => [(4,pA ((r 1).x) 0),(46,.agg ((kc42 C D)).toArray)]) [1,2,3] [1,2,3,12] [4,46] [1,2,3,4,5,6,7,8,9,11,12] false (by kernel_rfl) (by kernel_rfl) (by kernel_rfl) (by kernel_rfl) (by kernel_rfl) (fun _ => rfl) (fun _ _ => rfl) ⟨(.inl ⟨4,_,rfl,rfl,Cov.refl _,fun h => by cases h⟩),(.inl ⟨5,_,rfl,rfl,Cov.refl _,fun h => by cases h⟩),(.inl ⟨6,_,rfl,rfl,Cov.refl _,fun h => by cases h⟩),(.inl ⟨7,_,rfl,rfl,Cov.refl _,fun h => by cases h⟩),(.inl ⟨8,_,rfl,rfl,Cov.refl _,fun h => by cases h⟩),(.inl ⟨9,_,rfl,rfl,Cov.refl _,fun h => by cases h⟩),trivial⟩ (by rintro ⟨x9,E,C,D⟩; kernel_rfl) (by rintro ⟨x9,E,C,D⟩; kernel_rfl) ((by have h1 := w___primary_Machine__acked F z l s m u e p f q o A B n c j d k b a G e8; exact h1)) ?_
 rintro ⟨x9,E,C,D⟩
 refine GR.ru (i := 3) 1 (env' := fun _ => [(4,pA ((r 1).x) 0)]) (mem' := fun _ => [(1,.osl b a 3 1 []),(2,.cells n 87 (kc35 c j d k b a)),(3,.cells z 69 (kc24 l s m u e p f q x9 E)),(4,.rd l 1 [[vI 1]]),(5,.rd m 7 [(kc15)]),(6,.rd e 5 [(kc20)]),(7,.rd f 4 [(kc22 o)]),(8,.rd c 1 [[.int .u8 120]]),(9,.rd d 1 [[.int .u8 120]]),(11,.cells ((r 1).x) 60 (kc42 C D)),(12,.osl C D 57 46 [(kc41)])]) (by kernel_rfl) (RunsTo.mk [(3,{ act := .store 0 0 [],key := some 11 })] [4] [1,2,3,4,5,6,7,8,9,11,12] (fun _ => [(r 1).x = (r 1).x,oC (.agg ((kc42 C D)).toArray)]) (fun _ => by kernel_rfl) (fun _ => ⟨rfl,rfl,trivial⟩)) ?_
 intro _
 refine GR.dn (by kernel_rfl) ?_
 have hy := Option.some.inj hm
 subst hy
 refine GS.ret (fn := Try.f7) [11] [.agg ((kc42 C D)).toArray] [(r 1).x = (r 1).x] rfl Try.func7 (by kernel_rfl) ⟨rfl,trivial⟩ (fun w' hs => ?_)
 exact ⟨⟨x9,E,C,D⟩,rfl,hs.turnedG (ks := [1,2,3,12]) rfl rfl⟩

theorem w___primary_Machine__Idle_2 (F l : Nat) (c : Option Addr) (i : Nat) (d : Option Addr) (j : Nat) (a : Option Addr) (e : Nat) (b : Option Addr) (f : Nat) (k : Int) (g : Option Addr) (h : Nat) {y : Unit} (hm : m___primary_Machine__Idle_2 F k = some y) : CallG Try.prog 8 #[pA l 0] (X := Unit) (fun (_ : Unit) => .bool true) [] [.rd c 1 [[vI 1]],.rd d 7 [(kc15)],.rd a 5 [(kc20)],.rd b 4 [(kc22 k)],.rd (some ⟨l,0,none⟩) 17 [(kc24 c i d j a e b f g h)]] (fun (_ : Unit) => []) := by
 intro w hg
 rw [m___primary_Machine__Idle_2] at hm
 refine GS.start (S := mayT [] [.rd c 1 [[vI 1]],.rd d 7 [(kc15)],.rd a 5 [(kc20)],.rd b 4 [(kc22 k)],.rd (some ⟨l,0,none⟩) 17 [(kc24 c i d j a e b f g h)]]) (mem := [(1,.rd c 1 [[vI 1]]),(2,.rd d 7 [(kc15)]),(3,.rd a 5 [(kc20)]),(4,.rd b 4 [(kc22 k)]),(5,.rd (some ⟨l,0,none⟩) 17 [(kc24 c i d j a e b f g h)])]) Try.func8 rfl Try.ntmps8 (Nat.le_of_ble_eq_true rfl) (hg.start rfl) ?_
 refine GS.conv (env' := [(0,pA l 0)]) rfl rfl ?_
 refine GS.seq ?_
 refine GS.tzM (fun _ => [(0,pA l 0)]) [] ?_
 intro _
 refine GS.seq ?_
 refine GS.tg (fun _ => [(2,.bool true)]) (fun _ => []) [(6,{ act := .load 5 0 16 [vI 1,vI 0,vI 3,vI 0,vI 9,.slice c 1 i,vI 3,vI 0,vI 0,.slice d 1 j,.slice a 1 e,.slice b 1 f,.slice g 0 h,.pointer none,.bool false,vI 0,.bool true] }),(12,{ act := .load 5 0 13 [vI 1,vI 0,vI 3,vI 0,vI 9,.slice c 1 i,vI 3,vI 0,vI 0,.slice d 1 j,.slice a 1 e,.slice b 1 f,.slice g 0 h,.pointer none,.bool false,vI 0,.bool true] })] (fun _ => [l = blk (some ⟨l,0,none⟩),16 = offs (some ⟨l,0,none⟩) + (0 * 17 + 16),([(kc24 c i d j a e b f g h)] : List (List Value))[0]? = some [vI 1,vI 0,vI 3,vI 0,vI 9,.slice c 1 i,vI 3,vI 0,vI 0,.slice d 1 j,.slice a 1 e,.slice b 1 f,.slice g 0 h,.pointer none,.bool false,vI 0,.bool true],l = blk (some ⟨l,0,none⟩),13 = offs (some ⟨l,0,none⟩) + (0 * 17 + 13),([(kc24 c i d j a e b f g h)] : List (List Value))[0]? = some [vI 1,vI 0,vI 3,vI 0,vI 9,.slice c 1 i,vI 3,vI 0,vI 0,.slice d 1 j,.slice a 1 e,.slice b 1 f,.slice g 0 h,.pointer none,.bool false,vI 0,.bool true]]) (fun _ => ⟨rfl,rfl,rfl,rfl,rfl,rfl,trivial⟩) ?_
 intro _
 have hy := Option.some.inj hm
 subst hy
 refine GS.ret (fn := Try.f8) [0] [.bool true] [] rfl Try.func8 (by kernel_rfl) trivial (fun w' hs => ?_)
 exact ⟨(),rfl,hs.turnedG (ks := []) rfl rfl⟩

theorem w_tholelaw18_lives (F : Nat) {y : Unit} (hm : m_tholelaw18_lives F = some y) : CallG Try.prog 5 #[] (X := Unit) (fun (_ : Unit) => .bool true) [] [] (fun (_ : Unit) => []) := by
 intro w hg
 rw [m_tholelaw18_lives] at hm
 refine GS.start (S := mayT [] []) (mem := []) Try.func5 rfl Try.ntmps5 (Nat.le_of_ble_eq_true rfl) (hg.start rfl) ?_
 refine GS.conv (env' := []) rfl rfl ?_
 refine GS.seq ?_
 refine GS.tzM (fun _ => []) [] ?_
 intro _
 refine GS.seq ?_
 refine bnd_elim hm (fun y3 e4 hm => ?_)
 refine GS.open_ ?_
 refine GR.ru (i := 0) 3 (env' := fun Z => [(7,.agg #[vI 1,vI 0]),(8,.slice (some (Addr.mk (Z 1).x 0 none)) 2 2),(9,.agg ((kc1)).toArray)]) (mem' := fun Z => [(1,.osl (some (Addr.mk (Z 1).x 0 none)) 2 3 1 [[vI 0],[vI 1]])]) (by kernel_rfl) (RunsTo.mk [(1,{ act := .new (.row 2 1),key := some 1 })] [7,8,9] [1] (fun Z => []) (fun Z => by kernel_rfl) (fun Z => trivial)) ?_
 intro Z
 refine GR.callG (X := Nat × Option Addr × Nat × Option Addr × Nat × Option Addr × Nat × Option Addr × Nat) (i := 3) (g := 6) (args := #[.agg #[vI 1,vI 0],vI 3,vI 0,vI 9,.slice (some (Addr.mk (Z 1).x 0 none)) 2 2,.agg ((kc1)).toArray]) (v := fun ⟨x5,x6,x7,x8,x9,B,G,C,H⟩ => .tuple #[pA x5 0,vI 0]) (own := []) (ro := [.rd (some (Addr.mk (Z 1).x 0 none)) 1 [[vI 0],[vI 1]]]) (es' := fun ⟨x5,x6,x7,x8,x9,B,G,C,H⟩ => [.cells x5 69 (kc6 x6 x7 x8 x9 B G C H),.osl x6 x7 3 1 [[vI 1]],.osl x8 x9 52 7 [],.osl B G 80 5 [],.osl C H 76 4 []]) (mem' := fun ⟨x5,x6,x7,x8,x9,B,G,C,H⟩ => [(1,.osl (some (Addr.mk (Z 1).x 0 none)) 2 3 1 [[vI 0],[vI 1]]),(2,.cells x5 69 (kc6 x6 x7 x8 x9 B G C H)),(3,.osl x6 x7 3 1 [[vI 1]]),(4,.osl x8 x9 52 7 []),(5,.osl B G 80 5 []),(6,.osl C H 76 4 [])]) (env' := fun ⟨x5,x6,x7,x8,x9,B,G,C,H⟩ => [(10,.tuple #[pA x5 0,vI 0])]) [] [2,3,4,5,6] [10] [1,2,3,4,5,6] false (by kernel_rfl) (by kernel_rfl) (by kernel_rfl) (by kernel_rfl) (by kernel_rfl) (fun _ => rfl) (fun _ _ => rfl) ⟨(.inl ⟨1,_,rfl,rfl,Cov.osl_rd,fun h => by cases h⟩),trivial⟩ (by rintro ⟨x5,x6,x7,x8,x9,B,G,C,H⟩; kernel_rfl) (by rintro ⟨x5,x6,x7,x8,x9,B,G,C,H⟩; kernel_rfl) ((by have h1 := w_primary_New F (some (Addr.mk (Z 1).x 0 none)) 2 e4; exact h1)) ?_
 rintro ⟨x5,x6,x7,x8,x9,B,G,C,H⟩
 refine GR.ru (i := 4) 5 (env' := fun _ => [(1,pA x5 0),(2,vI 0)]) (mem' := fun _ => [(2,.cells x5 69 (kc6 x6 x7 x8 x9 B G C H)),(3,.osl x6 x7 3 1 [[vI 1]]),(4,.osl x8 x9 52 7 []),(5,.osl B G 80 5 []),(6,.osl C H 76 4 [])]) (by kernel_rfl) (RunsTo.mk [] [1,2] [2,3,4,5,6] (fun _ => []) (fun _ => by kernel_rfl) (fun _ => trivial)) ?_
 intro _
 refine GR.dn (by kernel_rfl) ?_
 refine GS.seq ?_
 refine GS.seq ?_
 refine GS.tzM (fun _ => [(1,pA x5 0),(18,.bool false)]) [] ?_
 intro _
 refine GS.cond (t := false) rfl rfl (fun hf => by cases hf) (fun _ => ?_)
 refine GS.skip ?_
 refine GS.seq ?_
 refine GS.tg (fun a => [(1,pA x5 0),(3,pA ((a 7).x) 0)]) (fun a => [(2,.cells x5 69 (kc6 x6 x7 x8 x9 B G C H)),(3,.osl x6 x7 3 1 [[vI 1]]),(4,.osl x8 x9 52 7 []),(5,.osl B G 80 5 []),(6,.osl C H 76 4 []),(7,.osl (some (Addr.mk (a 3).x 0 none)) 1 5 1 [[.int .u8 120]]),(8,.cells ((a 7).x) 57 (kc7 (some (Addr.mk (a 3).x 0 none))))]) [(3,{ act := .new (.row 1 1),key := some 7 }),(4,{ act := .markS,key := some 7 }),(7,{ act := .new .var,key := some 8 }),(8,{ act := .store 0 0 [],key := some 8 })] (fun a => [(some (Addr.mk (a 3).x 0 none)) = (some (Addr.mk (a 3).x 0 none)),1 ≠ 0,(a 7).x = (a 7).x,oC (.agg ((kc7 (some (Addr.mk (a 3).x 0 none)))).toArray)]) (fun a => ⟨rfl,(by decide),rfl,rfl,trivial⟩) ?_
 intro a
 refine GS.seq ?_
 refine bnd_elim hm (fun I aa hm => ?_)
 refine GS.open_ ?_
 refine GR.ru (i := 0) 2 (env' := fun _ => [(1,pA x5 0),(26,pA x5 0),(27,.agg ((kc7 (some (Addr.mk (a 3).x 0 none)))).toArray)]) (mem' := fun _ => [(2,.cells x5 69 (kc6 x6 x7 x8 x9 B G C H)),(3,.osl x6 x7 3 1 [[vI 1]]),(4,.osl x8 x9 52 7 []),(5,.osl B G 80 5 []),(6,.osl C H 76 4 []),(7,.osl (some (Addr.mk (a 3).x 0 none)) 1 5 1 [[.int .u8 120]])]) (by kernel_rfl) (RunsTo.mk [(1,{ act := .load 8 0 0 [] })] [1,26,27] [2,3,4,5,6,7] (fun _ => [(a 7).x = (a 7).x]) (fun _ => by kernel_rfl) (fun _ => ⟨rfl,trivial⟩)) ?_
 intro _
 refine GR.callG (X := Option Addr × Nat × Option Addr × Nat × Option Addr × Nat × Option Addr × Nat × Nat × Option Addr × Nat × Option Addr × Nat × Option Addr × Nat × Option Addr × Nat × Option Addr × Nat × Option Addr × Nat × Option Addr × Nat × Option Addr × Nat × Option Addr × Nat) (i := 2) (g := 7) (args := #[pA x5 0,.agg ((kc7 (some (Addr.mk (a 3).x 0 none)))).toArray]) (v := fun ⟨b,e,c,f,d,j,J,K,s,n,u,o,z,l,m,L,M,N,O,P,Q,R,T,q,U,D,E⟩ => .agg ((kc33 L M N O P Q R T q U)).toArray) (own := [.cells x5 69 (kc6 x6 x7 x8 x9 B G C H)]) (ro := [.rd x6 1 [[vI 1]],.rd x8 7 [],.rd B 5 [],.rd C 4 [],.rd (some (Addr.mk (a 3).x 0 none)) 1 [[.int .u8 120]]]) (es' := fun ⟨b,e,c,f,d,j,J,K,s,n,u,o,z,l,m,L,M,N,O,P,Q,R,T,q,U,D,E⟩ => [.cells x5 69 (kc25 x6 x7 b e c f d j J K s),.osl b e 52 7 [(kc15)],.osl c f 80 5 [(kc20)],.osl d j 76 4 [(kc22 I.1)],.cells s 87 (kc18 n u o z l m),.osl n u 5 1 [[.int .u8 120]],.osl o z 5 1 [[.int .u8 120]],.osl l m 3 1 [[vI 1]],.osl L M 52 7 [(kc15)],.osl N O 80 5 [(kc20)],.osl P Q 76 4 [(kc22 I.2)],.osl R T 5 1 [[.int .u8 120]],.osl q U 57 46 [(kc32 D E)],.osl D E 5 1 [[.int .u8 120]]]) (mem' := fun ⟨b,e,c,f,d,j,J,K,s,n,u,o,z,l,m,L,M,N,O,P,Q,R,T,q,U,D,E⟩ => [(2,.cells x5 69 (kc25 x6 x7 b e c f d j J K s)),(3,.osl x6 x7 3 1 [[vI 1]]),(4,.osl x8 x9 52 7 []),(5,.osl B G 80 5 []),(6,.osl C H 76 4 []),(7,.osl (some (Addr.mk (a 3).x 0 none)) 1 5 1 [[.int .u8 120]]),(9,.osl b e 52 7 [(kc15)]),(10,.osl c f 80 5 [(kc20)]),(11,.osl d j 76 4 [(kc22 I.1)]),(12,.cells s 87 (kc18 n u o z l m)),(13,.osl n u 5 1 [[.int .u8 120]]),(14,.osl o z 5 1 [[.int .u8 120]]),(15,.osl l m 3 1 [[vI 1]]),(16,.osl L M 52 7 [(kc15)]),(17,.osl N O 80 5 [(kc20)]),(18,.osl P Q 76 4 [(kc22 I.2)]),(19,.osl R T 5 1 [[.int .u8 120]]),(20,.osl q U 57 46 [(kc32 D E)]),(21,.osl D E 5 1 [[.int .u8 120]])]) (env' := fun ⟨b,e,c,f,d,j,J,K,s,n,u,o,z,l,m,L,M,N,O,P,Q,R,T,q,U,D,E⟩ => [(1,pA x5 0),(28,.agg ((kc33 L M N O P Q R T q U)).toArray)]) [2] [2,9,10,11,12,13,14,15,16,17,18,19,20,21] [1,28] [2,3,4,5,6,7,9,10,11,12,13,14,15,16,17,18,19,20,21] false (by kernel_rfl) (by kernel_rfl) (by kernel_rfl) (by kernel_rfl) (by kernel_rfl) (fun _ => rfl) (fun _ _ => rfl) ⟨(.inl ⟨3,_,rfl,rfl,Cov.osl_rd,fun h => by cases h⟩),(.inl ⟨4,_,rfl,rfl,Cov.osl_rd,fun h => by cases h⟩),(.inl ⟨5,_,rfl,rfl,Cov.osl_rd,fun h => by cases h⟩),(.inl ⟨6,_,rfl,rfl,Cov.osl_rd,fun h => by cases h⟩),(.inl ⟨7,_,rfl,rfl,Cov.osl_rd,fun h => by cases h⟩),trivial⟩ (by rintro ⟨b,e,c,f,d,j,J,K,s,n,u,o,z,l,m,L,M,N,O,P,Q,R,T,q,U,D,E⟩; kernel_rfl) (by rintro ⟨b,e,c,f,d,j,J,K,s,n,u,o,z,l,m,L,M,N,O,P,Q,R,T,q,U,D,E⟩; kernel_rfl) ((by have h1 := w___primary_Machine__Step F x5 x6 x7 x8 x9 B G C H (some (Addr.mk (a 3).x 0 none)) 1 aa; exact h1)) ?_
 rintro ⟨b,e,c,f,d,j,J,K,s,n,u,o,z,l,m,L,M,N,O,P,Q,R,T,q,U,D,E⟩
 refine GR.ru (i := 3) 2 (env' := fun k => [(1,pA x5 0),(4,pA ((k 3).x) 0)]) (mem' := fun k => [(2,.cells x5 69 (kc25 x6 x7 b e c f d j J K s)),(3,.osl x6 x7 3 1 [[vI 1]]),(9,.osl b e 52 7 [(kc15)]),(10,.osl c f 80 5 [(kc20)]),(11,.osl d j 76 4 [(kc22 I.1)]),(12,.cells s 87 (kc18 n u o z l m)),(13,.osl n u 5 1 [[.int .u8 120]]),(14,.osl o z 5 1 [[.int .u8 120]]),(15,.osl l m 3 1 [[vI 1]]),(16,.osl L M 52 7 [(kc15)]),(17,.osl N O 80 5 [(kc20)]),(18,.osl P Q 76 4 [(kc22 I.2)]),(19,.osl R T 5 1 [[.int .u8 120]]),(20,.osl q U 57 46 [(kc32 D E)]),(21,.osl D E 5 1 [[.int .u8 120]]),(22,.cells ((k 3).x) 60 (kc33 L M N O P Q R T q U))]) (by kernel_rfl) (RunsTo.mk [(3,{ act := .new .var,key := some 22 }),(4,{ act := .store 0 0 [],key := some 22 })] [1,4] [2,3,9,10,11,12,13,14,15,16,17,18,19,20,21,22] (fun k => [(k 3).x = (k 3).x,oC (.agg ((kc33 L M N O P Q R T q U)).toArray)]) (fun k => by kernel_rfl) (fun k => ⟨rfl,rfl,trivial⟩)) ?_
 intro k
 refine GR.dn (by kernel_rfl) ?_
 refine GS.seq ?_
 refine GS.seq ?_
 refine bnd_elim hm (fun af ab hm => ?_)
 refine GS.tgM (fun _ => [(1,pA x5 0),(4,pA ((k 3).x) 0),(54,.bool false)]) [(1,{ act := .load 22 0 0 [] }),(5,{ act := .load 22 0 0 [] }),(10,{ act := .load 22 0 0 [] }),(16,{ act := .load 22 0 0 [] }),(17,{ act := .idx 20 0 }),(19,{ act := .load 20 0 0 [vI 32,vI 2,vI 0,vI 2,vI 1,vI 9,vI 3,vI 1,vI 0,vI 0,vI 0,vI 0,.slice none 0 0,.slice none 0 0,.slice none 0 0,vI 0,vI 0,vI 0,vI 0,vI 0,vI 0,vI 0,vI 0,vI 0,.slice none 0 0,.slice none 0 0,.slice none 0 0,vI 3,vI 1,.bool false,vI 0,.string (ByteArray.mk #[97]),vI 5,vI 1,.string (ByteArray.mk #[97]),vI 3,vI 1,.slice D 1 E,vI 0,.string (ByteArray.mk #[]),.slice none 0 0,vI 0,vI 0,.slice none 0 0,.slice none 0 0,vI 0] }),(24,{ act := .call [2,3,9,10,11,12,13,14,15] (.bool false) })] (fun _ => [(k 3).x = (k 3).x,(k 3).x = (k 3).x,(k 3).x = (k 3).x,(k 3).x = (k 3).x,q = q,1 = ([(kc32 D E)] : List (List Value)).length,(0 : Int) = (0 : Int),0 < 1,blk q = blk q,offs q + 0 * 46 = offs q + (0 * 46 + 0),([(kc32 D E)] : List (List Value))[0]? = some [vI 32,vI 2,vI 0,vI 2,vI 1,vI 9,vI 3,vI 1,vI 0,vI 0,vI 0,vI 0,.slice none 0 0,.slice none 0 0,.slice none 0 0,vI 0,vI 0,vI 0,vI 0,vI 0,vI 0,vI 0,vI 0,vI 0,.slice none 0 0,.slice none 0 0,.slice none 0 0,vI 3,vI 1,.bool false,vI 0,.string (ByteArray.mk #[97]),vI 5,vI 1,.string (ByteArray.mk #[97]),vI 3,vI 1,.slice D 1 E,vI 0,.string (ByteArray.mk #[]),.slice none 0 0,vI 0,vI 0,.slice none 0 0,.slice none 0 0,vI 0],CallOK Try.prog 8 #[pA x5 0] (.bool false) [some (.cells x5 69 (kc25 x6 x7 b e c f d j J K s)),some (.osl x6 x7 3 1 [[vI 1]]),some (.osl b e 52 7 [(kc15)]),some (.osl c f 80 5 [(kc20)]),some (.osl d j 76 4 [(kc22 I.1)]),some (.cells s 87 (kc18 n u o z l m)),some (.osl n u 5 1 [[.int .u8 120]]),some (.osl o z 5 1 [[.int .u8 120]]),some (.osl l m 3 1 [[vI 1]])]]) (fun _ => ⟨rfl,rfl,rfl,rfl,rfl,rfl,rfl,(Nat.le_of_ble_eq_true rfl),rfl,rfl,rfl,(by have h1 := w___primary_Machine__Idle F x5 x6 x7 b e c f d j I.1 J K s n u o z l m ab; exact h1.ok ⟨(.inl ⟨.osl x6 x7 3 1 [[vI 1]],(.tail _ (.head _)),Cov.osl_rd⟩),(.inl ⟨.osl b e 52 7 [(kc15)],(.tail _ (.tail _ (.head _))),Cov.osl_rd⟩),(.inl ⟨.osl c f 80 5 [(kc20)],(.tail _ (.tail _ (.tail _ (.head _)))),Cov.osl_rd⟩),(.inl ⟨.osl d j 76 4 [(kc22 I.1)],(.tail _ (.tail _ (.tail _ (.tail _ (.head _))))),Cov.osl_rd⟩),(.inl ⟨.osl n u 5 1 [[.int .u8 120]],(.tail _ (.tail _ (.tail _ (.tail _ (.tail _ (.tail _ (.head _))))))),Cov.osl_rd⟩),(.inl ⟨.osl o z 5 1 [[.int .u8 120]],(.tail _ (.tail _ (.tail _ (.tail _ (.tail _ (.tail _ (.tail _ (.head _)))))))),Cov.osl_rd⟩),(.inl ⟨.osl l m 3 1 [[vI 1]],(.tail _ (.tail _ (.tail _ (.tail _ (.tail _ (.tail _ (.tail _ (.tail _ (.head _))))))))),Cov.osl_rd⟩),(.inl ⟨.cells s 87 (kc18 n u o z l m),(.tail _ (.tail _ (.tail _ (.tail _ (.tail _ (.head _)))))),Cov.cells_rd⟩),(.inl ⟨.cells x5 69 (kc25 x6 x7 b e c f d j J K s),.head _,Cov.cells_rd⟩),trivial⟩),trivial⟩) ?_
 intro _
 refine GS.cond (t := false) rfl rfl (fun hf => by cases hf) (fun _ => ?_)
 refine GS.skip ?_
 refine GS.seq ?_
 refine GS.know (p := l.isNone = false) (fun w hw => ne_osl (hw.ok 15 _ rfl)) (fun ag => ?_)
 refine GS.know (p := 1 ≤ m) (fun w hw => (hw.ok 15 _ rfl).1.1) (fun ac => ?_)
 refine bnd_elim hm (fun ah ad hm => ?_)
 refine GS.open_ ?_
 refine GR.ru (i := 0) 10 (env' := fun _ => [(1,pA x5 0),(55,pA x5 0),(64,.agg ((kc34)).toArray)]) (mem' := fun _ => [(2,.cells x5 69 (kc25 x6 x7 b e c f d j J K s)),(3,.osl x6 x7 3 1 [[vI 1]]),(9,.osl b e 52 7 [(kc15)]),(10,.osl c f 80 5 [(kc20)]),(11,.osl d j 76 4 [(kc22 I.1)]),(12,.cells s 87 (kc18 n u o z l m)),(13,.osl n u 5 1 [[.int .u8 120]]),(14,.osl o z 5 1 [[.int .u8 120]]),(15,.osl l m 3 1 [[vI 1]])]) (by kernel_rfl) (RunsTo.mk [(5,{ act := .load 22 0 0 [] }),(6,{ act := .idx 20 0 }),(8,{ act := .load 20 0 27 [vI 32,vI 2,vI 0,vI 2,vI 1,vI 9,vI 3,vI 1,vI 0,vI 0,vI 0,vI 0,.slice none 0 0,.slice none 0 0,.slice none 0 0,vI 0,vI 0,vI 0,vI 0,vI 0,vI 0,vI 0,vI 0,vI 0,.slice none 0 0,.slice none 0 0,.slice none 0 0,vI 3,vI 1,.bool false,vI 0,.string (ByteArray.mk #[97]),vI 5,vI 1,.string (ByteArray.mk #[97]),vI 3,vI 1,.slice D 1 E,vI 0,.string (ByteArray.mk #[]),.slice none 0 0,vI 0,vI 0,.slice none 0 0,.slice none 0 0,vI 0] })] [1,55,64] [2,3,9,10,11,12,13,14,15] (fun _ => [(k 3).x = (k 3).x,q = q,1 = ([(kc32 D E)] : List (List Value)).length,(0 : Int) = (0 : Int),0 < 1,blk q = blk q,offs q + 0 * 46 + 27 = offs q + (0 * 46 + 27),([(kc32 D E)] : List (List Value))[0]? = some [vI 32,vI 2,vI 0,vI 2,vI 1,vI 9,vI 3,vI 1,vI 0,vI 0,vI 0,vI 0,.slice none 0 0,.slice none 0 0,.slice none 0 0,vI 0,vI 0,vI 0,vI 0,vI 0,vI 0,vI 0,vI 0,vI 0,.slice none 0 0,.slice none 0 0,.slice none 0 0,vI 3,vI 1,.bool false,vI 0,.string (ByteArray.mk #[97]),vI 5,vI 1,.string (ByteArray.mk #[97]),vI 3,vI 1,.slice D 1 E,vI 0,.string (ByteArray.mk #[]),.slice none 0 0,vI 0,vI 0,.slice none 0 0,.slice none 0 0,vI 0]]) (fun _ => by kernel_rfl) (fun _ => ⟨rfl,rfl,rfl,rfl,(Nat.le_of_ble_eq_true rfl),rfl,(Nat.add_assoc ..),rfl,trivial⟩)) ?_
 intro _
 refine GR.callG (X := Option Addr × Nat × Option Addr × Nat) (i := 10) (g := 7) (args := #[pA x5 0,.agg ((kc34)).toArray]) (v := fun ⟨W,Y,r,V⟩ => .agg ((kc42 r V)).toArray) (own := [.osl l m 3 1 [[vI 1]],.cells s 87 (kc18 n u o z l m),.cells x5 69 (kc25 x6 x7 b e c f d j J K s)]) (ro := [.rd x6 1 [[vI 1]],.rd b 7 [(kc15)],.rd c 5 [(kc20)],.rd d 4 [(kc22 I.1)],.rd n 1 [[.int .u8 120]],.rd o 1 [[.int .u8 120]]]) (es' := fun ⟨W,Y,r,V⟩ => [.osl l m 3 1 [],.cells s 87 (kc35 n u o z l m),.cells x5 69 (kc24 x6 x7 b e c f d j W Y),.osl r V 57 46 [(kc41)]]) (mem' := fun ⟨W,Y,r,V⟩ => [(2,.cells x5 69 (kc24 x6 x7 b e c f d j W Y)),(3,.osl x6 x7 3 1 [[vI 1]]),(9,.osl b e 52 7 [(kc15)]),(10,.osl c f 80 5 [(kc20)]),(11,.osl d j 76 4 [(kc22 I.1)]),(12,.cells s 87 (kc35 n u o z l m)),(13,.osl n u 5 1 [[.int .u8 120]]),(14,.osl o z 5 1 [[.int .u8 120]]),(15,.osl l m 3 1 []),(23,.osl r V 57 46 [(kc41)])]) (env' := fun ⟨W,Y,r,V⟩ => [(1,pA x5 0),(65,.agg ((kc42 r V)).toArray)]) [15,12,2] [15,12,2,23] [1,65] [2,3,9,10,11,12,13,14,15,23] false (by kernel_rfl) (by kernel_rfl) (by kernel_rfl) (by kernel_rfl) (by kernel_rfl) (fun _ => rfl) (fun _ _ => rfl) ⟨(.inl ⟨3,_,rfl,rfl,Cov.osl_rd,fun h => by cases h⟩),(.inl ⟨9,_,rfl,rfl,Cov.osl_rd,fun h => by cases h⟩),(.inl ⟨10,_,rfl,rfl,Cov.osl_rd,fun h => by cases h⟩),(.inl ⟨11,_,rfl,rfl,Cov.osl_rd,fun h => by cases h⟩),(.inl ⟨13,_,rfl,rfl,Cov.osl_rd,fun h => by cases h⟩),(.inl ⟨14,_,rfl,rfl,Cov.osl_rd,fun h => by cases h⟩),trivial⟩ (by rintro ⟨W,Y,r,V⟩; kernel_rfl) (by rintro ⟨W,Y,r,V⟩; kernel_rfl) ((by have h1 := w___primary_Machine__Step_2 F x5 x6 x7 b e c f d j I.1 J K s n u o z l m ac ad; exact h1)) ?_
 rintro ⟨W,Y,r,V⟩
 refine GR.ru (i := 11) 2 (env' := fun A => [(1,pA x5 0),(5,pA ((A 11).x) 0)]) (mem' := fun A => [(2,.cells x5 69 (kc24 x6 x7 b e c f d j W Y)),(3,.osl x6 x7 3 1 [[vI 1]]),(9,.osl b e 52 7 [(kc15)]),(10,.osl c f 80 5 [(kc20)]),(11,.osl d j 76 4 [(kc22 I.1)]),(23,.osl r V 57 46 [(kc41)]),(24,.cells ((A 11).x) 60 (kc42 r V))]) (by kernel_rfl) (RunsTo.mk [(11,{ act := .new .var,key := some 24 }),(12,{ act := .store 0 0 [],key := some 24 })] [1,5] [2,3,9,10,11,23,24] (fun A => [(A 11).x = (A 11).x,oC (.agg ((kc42 r V)).toArray)]) (fun A => by kernel_rfl) (fun A => ⟨rfl,rfl,trivial⟩)) ?_
 intro A
 refine GR.dn (by kernel_rfl) ?_
 refine GS.seq ?_
 refine bnd_elim hm (fun ai ae hm => ?_)
 refine GS.tg (fun _ => [(0,.bool true)]) (fun _ => []) [(1,{ act := .load 24 0 0 [] }),(6,{ act := .load 24 0 0 [] }),(7,{ act := .idx 23 0 }),(9,{ act := .load 23 0 0 [vI 31,vI 2,vI 0,vI 3,vI 0,vI 9,vI 3,vI 1,vI 0,vI 5,vI 1,vI 0,.slice none 0 0,.slice none 0 0,.slice none 0 0,vI 0,vI 0,vI 0,vI 0,vI 0,vI 0,vI 0,vI 0,vI 0,.slice none 0 0,.slice none 0 0,.slice none 0 0,vI 0,vI 0,.bool false,vI 0,.string (ByteArray.mk #[]),vI 0,vI 0,.string (ByteArray.mk #[97]),vI 3,vI 1,.slice none 0 0,vI 0,.string (ByteArray.mk #[]),.slice none 0 0,vI 0,vI 0,.slice none 0 0,.slice none 0 0,vI 0] }),(14,{ act := .load 24 0 0 [] }),(15,{ act := .idx 23 0 }),(17,{ act := .load 23 0 45 [vI 31,vI 2,vI 0,vI 3,vI 0,vI 9,vI 3,vI 1,vI 0,vI 5,vI 1,vI 0,.slice none 0 0,.slice none 0 0,.slice none 0 0,vI 0,vI 0,vI 0,vI 0,vI 0,vI 0,vI 0,vI 0,vI 0,.slice none 0 0,.slice none 0 0,.slice none 0 0,vI 0,vI 0,.bool false,vI 0,.string (ByteArray.mk #[]),vI 0,vI 0,.string (ByteArray.mk #[97]),vI 3,vI 1,.slice none 0 0,vI 0,.string (ByteArray.mk #[]),.slice none 0 0,vI 0,vI 0,.slice none 0 0,.slice none 0 0,vI 0] }),(22,{ act := .call [2,3,9,10,11] (.bool true) })] (fun _ => [(A 11).x = (A 11).x,(A 11).x = (A 11).x,r = r,1 = ([(kc41)] : List (List Value)).length,(0 : Int) = (0 : Int),0 < 1,blk r = blk r,offs r + 0 * 46 = offs r + (0 * 46 + 0),([(kc41)] : List (List Value))[0]? = some [vI 31,vI 2,vI 0,vI 3,vI 0,vI 9,vI 3,vI 1,vI 0,vI 5,vI 1,vI 0,.slice none 0 0,.slice none 0 0,.slice none 0 0,vI 0,vI 0,vI 0,vI 0,vI 0,vI 0,vI 0,vI 0,vI 0,.slice none 0 0,.slice none 0 0,.slice none 0 0,vI 0,vI 0,.bool false,vI 0,.string (ByteArray.mk #[]),vI 0,vI 0,.string (ByteArray.mk #[97]),vI 3,vI 1,.slice none 0 0,vI 0,.string (ByteArray.mk #[]),.slice none 0 0,vI 0,vI 0,.slice none 0 0,.slice none 0 0,vI 0],(A 11).x = (A 11).x,r = r,1 = ([(kc41)] : List (List Value)).length,(0 : Int) = (0 : Int),0 < 1,blk r = blk r,offs r + 0 * 46 + 45 = offs r + (0 * 46 + 45),([(kc41)] : List (List Value))[0]? = some [vI 31,vI 2,vI 0,vI 3,vI 0,vI 9,vI 3,vI 1,vI 0,vI 5,vI 1,vI 0,.slice none 0 0,.slice none 0 0,.slice none 0 0,vI 0,vI 0,vI 0,vI 0,vI 0,vI 0,vI 0,vI 0,vI 0,.slice none 0 0,.slice none 0 0,.slice none 0 0,vI 0,vI 0,.bool false,vI 0,.string (ByteArray.mk #[]),vI 0,vI 0,.string (ByteArray.mk #[97]),vI 3,vI 1,.slice none 0 0,vI 0,.string (ByteArray.mk #[]),.slice none 0 0,vI 0,vI 0,.slice none 0 0,.slice none 0 0,vI 0],CallOK Try.prog 8 #[pA x5 0] (.bool true) [some (.cells x5 69 (kc24 x6 x7 b e c f d j W Y)),some (.osl x6 x7 3 1 [[vI 1]]),some (.osl b e 52 7 [(kc15)]),some (.osl c f 80 5 [(kc20)]),some (.osl d j 76 4 [(kc22 I.1)])]]) (fun _ => ⟨rfl,rfl,rfl,rfl,rfl,(Nat.le_of_ble_eq_true rfl),rfl,rfl,rfl,rfl,rfl,rfl,rfl,(Nat.le_of_ble_eq_true rfl),rfl,(Nat.add_assoc ..),rfl,(by have h1 := w___primary_Machine__Idle_2 F x5 x6 x7 b e c f d j I.1 W Y ae; exact h1.ok ⟨(.inl ⟨.osl x6 x7 3 1 [[vI 1]],(.tail _ (.head _)),Cov.osl_rd⟩),(.inl ⟨.osl b e 52 7 [(kc15)],(.tail _ (.tail _ (.head _))),Cov.osl_rd⟩),(.inl ⟨.osl c f 80 5 [(kc20)],(.tail _ (.tail _ (.tail _ (.head _)))),Cov.osl_rd⟩),(.inl ⟨.osl d j 76 4 [(kc22 I.1)],(.tail _ (.tail _ (.tail _ (.tail _ (.head _))))),Cov.osl_rd⟩),(.inl ⟨.cells x5 69 (kc24 x6 x7 b e c f d j W Y),.head _,Cov.cells_rd⟩),trivial⟩),trivial⟩) ?_
 intro _
 have hy := Option.some.inj hm
 subst hy
 refine GS.ret (fn := Try.f5) [0] [.bool true] [] rfl Try.func5 (by kernel_rfl) trivial (fun w' hs => ?_)
 exact ⟨(),rfl,hs.turnedG (ks := []) rfl rfl⟩

theorem w_slices_Index___int_int__3 (F : Nat) (b : Option Addr) (c : Nat) (a0 : List Int) (a1 : Int) {y : Int} (hm : m_slices_Index___int_int__3 F a0 a1 = some y) : CallG Try.prog 14 #[.slice b a0.length c,vI a1] (X := Unit) (fun (_ : Unit) => vI y) [] [r3 b a0] (fun (_ : Unit) => []) := by
 intro w hg
 rw [m_slices_Index___int_int__3] at hm
 refine GS.start (S := mayT [] [r3 b a0]) (mem := [(1,r3 b a0)]) Try.func14 rfl Try.ntmps14 (Nat.le_of_ble_eq_true rfl) (hg.start rfl) ?_
 refine GS.conv (env' := [(0,.slice b a0.length c),(1,vI a1)]) rfl rfl ?_
 refine GS.seq ?_
 refine GS.tzM (fun _ => [(0,.slice b a0.length c),(1,vI a1)]) [] ?_
 intro _
 refine GS.seq ?_
 refine GS.seq ?_
 refine GS.tzM (fun _ => [(0,.slice b a0.length c),(1,vI a1),(7,vI (a0.length : Int)),(8,vI 0)]) [] ?_
 intro _
 refine GS.block ?_
 refine GS.loop ?_
 refine grd_elim hm (fun i hm => ?_)
 refine GS.rekey (env' := [(0,.slice b a0.length c),(1,vI a1),(7,vI (a0.length : Int)),(8,vI 0)]) (mem' := [(1,r3 b a0)]) [0,1,7,8] [(1,1)] (by kernel_rfl) (by kernel_rfl) rfl ?_
 refine loopL_elim hm (fun st35 fn36 hst37 hfn38 hm => ?_)
 refine GS.loopInv (ι := List Int × Nat) (I := fun ⟨d,a⟩ => a0.drop a = d ∧ loopL st35 fn36 d a () = some y) (μ := fun ⟨d,a⟩ => d.length) (E := fun ⟨d,a⟩ => [(0,.slice b a0.length c),(1,vI a1),(7,vI (a0.length : Int)),(8,vI (a : Int))]) (M := fun ⟨d,a⟩ => [(1,r3 b a0)]) ?_ ⟨a0,0⟩ ⟨List.drop_zero ..,hm⟩
 rintro ⟨d,a⟩ ⟨e,hm⟩ h
 cases d with
 | nil =>
  replace hm := (hfn38 _ _).symm.trans hm
  try dsimp only at hm
  refine GS.seq ?_
  refine GS.tzM (fun _ => [(0,.slice b a0.length c),(1,vI a1),(7,vI (a0.length : Int)),(8,vI (a : Int)),(9,.bool (decide ((a : Int) < (a0.length : Int))))]) [] ?_
  intro _
  refine GS.seq ?_
  refine GS.cond (t := decide ((a : Int) < (a0.length : Int))) rfl rfl (fun j => absb j (drop_dec0 e)) (fun _ => ?_)
  refine GS.exit rfl ?_
  refine GS.seq ?_
  refine GS.tz (fun _ => [(4,vI (-1))]) (fun _ => []) [] ?_
  intro _
  have hy := Option.some.inj hm
  subst hy
  refine GS.ret (fn := Try.f14) [0] [vI (-1)] [] rfl Try.func14 (by kernel_rfl) trivial (fun w' hs => ?_)
  exact ⟨(),rfl,hs.turnedG (ks := []) rfl rfl⟩
 | cons f d =>
  replace hm := (hst37 _ _ _ _).symm.trans hm
  try dsimp only at hm
  refine GS.seq ?_
  refine GS.tzM (fun _ => [(0,.slice b a0.length c),(1,vI a1),(7,vI (a0.length : Int)),(8,vI (a : Int)),(9,.bool (decide ((a : Int) < (a0.length : Int))))]) [] ?_
  intro _
  refine GS.seq ?_
  refine GS.cond (t := decide ((a : Int) < (a0.length : Int))) rfl rfl (fun _ => ?_) (fun k => absb (drop_dec e) k)
  refine GS.skip ?_
  refine GS.seq ?_
  refine GS.block ?_
  refine GS.seq ?_
  refine GS.tzM (fun _ => [(0,.slice b a0.length c),(1,vI a1),(5,vI (a : Int)),(7,vI (a0.length : Int)),(8,vI (a : Int))]) [] ?_
  intro _
  refine GS.seq ?_
  refine GS.tgM (fun _ => [(0,.slice b a0.length c),(1,vI a1),(5,vI (a : Int)),(7,vI (a0.length : Int)),(8,vI (a : Int)),(16,.bool (a1 == f))]) [(3,{ act := .idx 1 a }),(4,{ act := .load 1 a 0 [vI f] })] (fun _ => [b = b,a0.length = (List.map rI a0).length,((a : Int) : Int) = (a : Int),a < a0.length,blk b = blk b,offs b + a * 1 = offs b + (a * 1 + 0),(List.map rI a0)[a]? = some [vI f]]) (fun _ => ⟨rfl,mlen rI a0,rfl,(drop_lt e),rfl,rfl,map_drop rI e,trivial⟩) ?_
  intro _
  refine GS.cond (t := a1 == f) rfl rfl (fun g => ?_) (fun g => ?_)
  ·replace hm := br_t g hm
   refine GS.seq ?_
   refine GS.tz (fun _ => [(4,vI (a : Int))]) (fun _ => []) [] ?_
   intro _
   have hy := Option.some.inj hm
   subst hy
   refine GS.ret (fn := Try.f14) [0] [vI (a : Int)] [] rfl Try.func14 (by kernel_rfl) trivial (fun w' hs => ?_)
   exact ⟨(),rfl,hs.turnedG (ks := []) rfl rfl⟩
  ·replace hm := br_f g hm
   refine GS.skip ?_
   refine GS.inBlock ?_
   refine GS.tgM (fun _ => [(0,.slice b a0.length c),(1,vI a1),(7,vI (a0.length : Int)),(8,vI ((a + 1 : Nat) : Int))]) [(0,{ sp := some (vI ((a + 1 : Nat) : Int)) })] (fun _ => [((vI (IntKind.i64.wrap ((a : Int) + 1))) : Value) = vI ((a + 1 : Nat) : Int)]) (fun _ => ⟨natw (drop_lt e) i,trivial⟩) ?_
   intro _
   refine GS.inLoop ?_
   refine GS.rekey (env' := [(0,.slice b a0.length c),(1,vI a1),(7,vI (a0.length : Int)),(8,vI ((a + 1 : Nat) : Int))]) (mem' := [(1,r3 b a0)]) [0,1,7,8] [(1,1)] (by kernel_rfl) (by kernel_rfl) rfl ?_
   exact h ⟨d,a + 1⟩ ⟨drop_next e,hm⟩ (Nat.lt_succ_self _)

theorem w_slices_Contains___int_int__2 (F : Nat) (a : Option Addr) (b : Nat) (a0 : List Int) (a1 : Int) {y : Bool} (hm : m_slices_Contains___int_int__2 F a0 a1 = some y) : CallG Try.prog 9 #[.slice a a0.length b,vI a1] (X := Unit) (fun (_ : Unit) => .bool y) [] [r3 a a0] (fun (_ : Unit) => []) := by
 intro w hg
 rw [m_slices_Contains___int_int__2] at hm
 refine GS.start (S := mayT [] [r3 a a0]) (mem := [(1,r3 a a0)]) Try.func9 rfl Try.ntmps9 (Nat.le_of_ble_eq_true rfl) (hg.start rfl) ?_
 refine GS.conv (env' := [(0,.slice a a0.length b),(1,vI a1)]) rfl rfl ?_
 refine GS.seq ?_
 refine GS.tzM (fun _ => [(0,.slice a a0.length b),(1,vI a1)]) [] ?_
 intro _
 refine GS.seq ?_
 refine bnd_elim hm (fun y3 e4 hm => ?_)
 refine GS.tg (fun _ => [(4,.bool (decide (y3 ≥ 0)))]) (fun _ => []) [(2,{ act := .call [1] (vI y3) })] (fun _ => [CallOK Try.prog 14 #[.slice a a0.length b,vI a1] (vI y3) [some (r3 a a0)]]) (fun _ => ⟨(by have h1 := w_slices_Index___int_int__3 F a b a0 a1 e4; exact h1.ok ⟨(.inl ⟨r3 a a0,.head _,Cov.refl _⟩),trivial⟩),trivial⟩) ?_
 intro _
 have hy := Option.some.inj hm
 subst hy
 refine GS.ret (fn := Try.f9) [0] [.bool (decide (y3 ≥ 0))] [] rfl Try.func9 (by kernel_rfl) trivial (fun w' hs => ?_)
 exact ⟨(),rfl,hs.turnedG (ks := []) rfl rfl⟩

theorem w_pglog_below_2 (F : Nat) (a0 : S_api_Version) {y : Bool} (hm : m_pglog_below_2 F a0 = some y) : CallG Try.prog 15 #[.agg #[vI a0.Epoch,vI a0.N]] (X := Unit) (fun (_ : Unit) => .bool y) [] [] (fun (_ : Unit) => []) := by
 intro w hg
 rw [m_pglog_below_2] at hm
 refine GS.start (S := mayT [] []) (mem := []) Try.func15 rfl Try.ntmps15 (Nat.le_of_ble_eq_true rfl) (hg.start rfl) ?_
 refine GS.conv (env' := [(0,.agg #[vI a0.Epoch,vI a0.N])]) rfl rfl ?_
 refine GS.seq ?_
 refine GS.tz (fun a => [(1,pA ((a 0).x) 0)]) (fun a => [(1,.cells ((a 0).x) 26 [vI a0.Epoch,vI a0.N])]) [(0,{ act := .new .var,key := some 1 })] ?_
 intro a
 refine GS.seq ?_
 refine br_elim hm (fun h3 hm => ?_) (fun h3 hm => ?_)
 ·skip
  refine GS.tg (fun _ => [(2,.bool true)]) (fun _ => []) [(1,{ act := .load 1 0 0 [] }),(3,{ sp := some (.bool true) })] (fun _ => [(a 0).x = (a 0).x,((.bool (decide (a0.Epoch < 0))) : Value) = .bool true]) (fun _ => ⟨rfl,bool_eq h3,trivial⟩) ?_
  intro _
  have hy := Option.some.inj hm
  subst hy
  refine GS.ret (fn := Try.f15) [0] [.bool true] [] rfl Try.func15 (by kernel_rfl) trivial (fun w' hs => ?_)
  exact ⟨(),rfl,hs.turnedG (ks := []) rfl rfl⟩
 ·skip
  refine GS.tg (fun _ => [(2,.bool (decide (a0.N < 0)))]) (fun _ => []) [(1,{ act := .load 1 0 0 [] }),(3,{ sp := some (.bool false) }),(5,{ act := .load 1 0 0 [] })] (fun _ => [(a 0).x = (a 0).x,((.bool (decide (a0.Epoch < 0))) : Value) = .bool false,(a 0).x = (a 0).x]) (fun _ => ⟨rfl,bool_eq h3,rfl,trivial⟩) ?_
  intro _
  have hy := Option.some.inj hm
  subst hy
  refine GS.ret (fn := Try.f15) [0] [.bool (decide (a0.N < 0))] [] rfl Try.func15 (by kernel_rfl) trivial (fun w' hs => ?_)
  exact ⟨(),rfl,hs.turnedG (ks := []) rfl rfl⟩

theorem w_cmp_isNaN_int__3 (F : Nat) (a0 : Int) {y : Bool} (hm : m_cmp_isNaN_int__3 F a0 = some y) : CallG Try.prog 36 #[vI a0] (X := Unit) (fun (_ : Unit) => .bool y) [] [] (fun (_ : Unit) => []) := by
 intro w hg
 rw [m_cmp_isNaN_int__3] at hm
 refine GS.start (S := mayT [] []) (mem := []) Try.func36 rfl Try.ntmps36 (Nat.le_of_ble_eq_true rfl) (hg.start rfl) ?_
 refine GS.conv (env' := [(0,vI a0)]) rfl rfl ?_
 refine GS.seq ?_
 refine GS.tzM (fun _ => [(0,vI a0)]) [] ?_
 intro _
 refine GS.seq ?_
 refine GS.tzM (fun _ => [(2,.bool (a0 != a0))]) [] ?_
 intro _
 have hy := Option.some.inj hm
 subst hy
 refine GS.ret (fn := Try.f36) [0] [.bool (a0 != a0)] [] rfl Try.func36 (by kernel_rfl) trivial (fun w' hs => ?_)
 exact ⟨(),rfl,hs.turnedG (ks := []) rfl rfl⟩

theorem w_cmp_Compare_int__2 (F : Nat) (a0 a1 : Int) {y : Int} (hm : m_cmp_Compare_int__2 F a0 a1 = some y) : CallG Try.prog 30 #[vI a0,vI a1] (X := Unit) (fun (_ : Unit) => vI y) [] [] (fun (_ : Unit) => []) := by
 intro w hg
 rw [m_cmp_Compare_int__2] at hm
 refine GS.start (S := mayT [] []) (mem := []) Try.func30 rfl Try.ntmps30 (Nat.le_of_ble_eq_true rfl) (hg.start rfl) ?_
 refine GS.conv (env' := [(0,vI a0),(1,vI a1)]) rfl rfl ?_
 refine GS.seq ?_
 refine GS.tzM (fun _ => [(0,vI a0),(1,vI a1)]) [] ?_
 intro _
 refine GS.seq ?_
 refine bnd_elim hm (fun y3 e4 hm => ?_)
 refine GS.tgM (fun _ => [(0,vI a0),(1,vI a1),(5,.bool y3)]) [(1,{ act := .call [] (.bool y3) })] (fun _ => [CallOK Try.prog 36 #[vI a0] (.bool y3) []]) (fun _ => ⟨(by have h1 := w_cmp_isNaN_int__3 F a0 e4; exact h1.ok trivial),trivial⟩) ?_
 intro _
 refine GS.seq ?_
 refine bnd_elim hm (fun y6 e7 hm => ?_)
 refine GS.tgM (fun _ => [(0,vI a0),(1,vI a1),(5,.bool y3),(6,.bool y6)]) [(1,{ act := .call [] (.bool y6) })] (fun _ => [CallOK Try.prog 36 #[vI a1] (.bool y6) []]) (fun _ => ⟨(by have h1 := w_cmp_isNaN_int__3 F a1 e7; exact h1.ok trivial),trivial⟩) ?_
 intro _
 refine GS.seq ?_
 refine GS.seq ?_
 refine GS.tzM (fun _ => [(0,vI a0),(1,vI a1),(6,.bool y6),(11,.bool y3)]) [] ?_
 intro _
 refine GS.cond (t := y3) rfl rfl (fun h9 => ?_) (fun h9 => ?_)
 ·replace hm := br_t h9 hm
  refine GS.seq ?_
  refine GS.seq ?_
  refine GS.tzM (fun _ => [(12,.bool y6)]) [] ?_
  intro _
  refine GS.cond (t := y6) rfl rfl (fun a => ?_) (fun a => ?_)
  ·replace hm := br_t a hm
   refine GS.seq ?_
   refine GS.tzM (fun _ => [(4,vI 0)]) [] ?_
   intro _
   have hy := Option.some.inj hm
   subst hy
   refine GS.ret (fn := Try.f30) [0] [vI 0] [] rfl Try.func30 (by kernel_rfl) trivial (fun w' hs => ?_)
   exact ⟨(),rfl,hs.turnedG (ks := []) rfl rfl⟩
  ·replace hm := br_f a hm
   refine GS.skip ?_
   refine GS.seq ?_
   refine GS.tzM (fun _ => [(4,vI (-1))]) [] ?_
   intro _
   have hy := Option.some.inj hm
   subst hy
   refine GS.ret (fn := Try.f30) [0] [vI (-1)] [] rfl Try.func30 (by kernel_rfl) trivial (fun w' hs => ?_)
   exact ⟨(),rfl,hs.turnedG (ks := []) rfl rfl⟩
 ·replace hm := br_f h9 hm
  refine GS.skip ?_
  refine GS.seq ?_
  refine GS.seq ?_
  refine GS.tzM (fun _ => [(0,vI a0),(1,vI a1),(13,.bool y6)]) [] ?_
  intro _
  refine GS.cond (t := y6) rfl rfl (fun b => ?_) (fun b => ?_)
  ·replace hm := br_t b hm
   refine GS.seq ?_
   refine GS.tzM (fun _ => [(4,vI 1)]) [] ?_
   intro _
   have hy := Option.some.inj hm
   subst hy
   refine GS.ret (fn := Try.f30) [0] [vI 1] [] rfl Try.func30 (by kernel_rfl) trivial (fun w' hs => ?_)
   exact ⟨(),rfl,hs.turnedG (ks := []) rfl rfl⟩
  ·replace hm := br_f b hm
   refine GS.skip ?_
   refine GS.seq ?_
   refine GS.seq ?_
   refine GS.tzM (fun _ => [(0,vI a0),(1,vI a1),(16,.bool (decide (a0 < a1)))]) [] ?_
   intro _
   refine GS.cond (t := decide (a0 < a1)) rfl rfl (fun c => ?_) (fun c => ?_)
   ·replace hm := br_t c hm
    refine GS.seq ?_
    refine GS.tzM (fun _ => [(4,vI (-1))]) [] ?_
    intro _
    have hy := Option.some.inj hm
    subst hy
    refine GS.ret (fn := Try.f30) [0] [vI (-1)] [] rfl Try.func30 (by kernel_rfl) trivial (fun w' hs => ?_)
    exact ⟨(),rfl,hs.turnedG (ks := []) rfl rfl⟩
   ·replace hm := br_f c hm
    refine GS.skip ?_
    refine GS.seq ?_
    refine GS.seq ?_
    refine GS.tzM (fun _ => [(19,.bool (decide (a0 > a1)))]) [] ?_
    intro _
    refine GS.cond (t := decide (a0 > a1)) rfl rfl (fun d => ?_) (fun d => ?_)
    ·replace hm := br_t d hm
     refine GS.seq ?_
     refine GS.tzM (fun _ => [(4,vI 1)]) [] ?_
     intro _
     have hy := Option.some.inj hm
     subst hy
     refine GS.ret (fn := Try.f30) [0] [vI 1] [] rfl Try.func30 (by kernel_rfl) trivial (fun w' hs => ?_)
     exact ⟨(),rfl,hs.turnedG (ks := []) rfl rfl⟩
    ·replace hm := br_f d hm
     refine GS.skip ?_
     refine GS.seq ?_
     refine GS.tzM (fun _ => [(4,vI 0)]) [] ?_
     intro _
     have hy := Option.some.inj hm
     subst hy
     refine GS.ret (fn := Try.f30) [0] [vI 0] [] rfl Try.func30 (by kernel_rfl) trivial (fun w' hs => ?_)
     exact ⟨(),rfl,hs.turnedG (ks := []) rfl rfl⟩

end Go.Proofs.Ytjnbkhnebmlilaa
