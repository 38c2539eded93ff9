/-
 CHAPTER 18r: the functions do what their models say (2).
-/
import Derived.Test.YtjnbkhnebmlilaaE18r
import Derived.Test.YtjnbkhnebmlilaaW18ra
set_option linter.unusedVariables false
set_option linter.unusedSimpArgs false
set_option maxRecDepth 100000
set_option maxHeartbeats 8000000
namespace Go.Proofs.Ytjnbkhnebmlilaa
open Go Go.RowKit Sx

theorem w___digest_Engine__Crc (F b : Nat) (a : Option Addr) (c : Nat) {y : List Int × Int} (hm : m___digest_Engine__Crc F = some y) : CallG Try.prog 44 #[pA b 0,.slice a 1 c] (X := Unit) (fun (_ : Unit) => .int .u32 y.2) [.cells b 136 (([.int .u32 0,.int .i32 0,.int .u32 0] : List Value) ++ (aU32 (List.replicate 256 0) ++ (([vI 0] : List Value))))] [.rd a 1 [[.int .u8 120]]] (fun (_ : Unit) => [.cells b 136 (([.int .u32 1,.int .i32 0,.int .u32 0] : List Value) ++ (aU32 y.1 ++ (([vI 1] : List Value))))]) := by
 intro w hg
 rw [m___digest_Engine__Crc] at hm
 refine GS.start (S := mayT [.cells b 136 (([.int .u32 0,.int .i32 0,.int .u32 0] : List Value) ++ (aU32 (List.replicate 256 0) ++ (([vI 0] : List Value))))] [.rd a 1 [[.int .u8 120]]]) (mem := [(1,.cells b 136 (([.int .u32 0,.int .i32 0,.int .u32 0] : List Value) ++ (aU32 (List.replicate 256 0) ++ (([vI 0] : List Value))))),(2,.rd a 1 [[.int .u8 120]])]) Try.func44 rfl Try.ntmps44 (Nat.le_of_ble_eq_true rfl) (hg.start rfl) ?_
 refine GS.conv (env' := [(0,pA b 0),(1,.slice a 1 c)]) rfl rfl ?_
 refine GS.seq ?_
 refine GS.tzM (fun _ => [(0,pA b 0),(1,.slice a 1 c)]) [] ?_
 intro _
 refine GS.seq ?_
 refine GS.seq ?_
 refine GS.tzM (fun _ => [(0,pA b 0),(1,.slice a 1 c),(9,.bool false)]) [] ?_
 intro _
 refine GS.cond (t := false) rfl rfl (fun hf => by cases hf) (fun _ => ?_)
 refine GS.skip ?_
 refine GS.seq ?_
 refine GS.open_ ?_
 refine GR.rM (i := 0) 3 (env' := fun _ => [(0,pA b 0),(1,.slice a 1 c),(12,pA b 259)]) (by kernel_rfl) (RunsTo.mk [] [0,1,12] [1,2] (fun _ => []) (fun _ => by kernel_rfl) (fun _ => trivial)) ?_
 intro _
 refine GR.callG (X := Unit) (i := 3) (g := 54) (ro := []) (mem' := fun (_ : Unit) => [(1,.cells b 136 (([.int .u32 0,.int .i32 0,.int .u32 0] : List Value) ++ (aU32 (List.replicate 256 0) ++ (([vI 1] : List Value))))),(2,.rd a 1 [[.int .u8 120]])]) (env' := fun (_ : Unit) => [(0,pA b 0),(1,.slice a 1 c)]) [1] [1] [0,1] [1,2] false (by kernel_rfl) (by kernel_rfl) (by kernel_rfl) (by kernel_rfl) (by kernel_rfl) (fun _ => rfl) (fun _ _ => rfl) trivial (by rintro _; kernel_rfl) (by rintro _; kernel_rfl) (add_ok b 0 0 0 (List.replicate 256 0) 0 1 (List.length_replicate ..)) ?_
 rintro _
 refine GR.dn (by kernel_rfl) ?_
 refine GS.seq ?_
 refine bnd_elim hm (fun y6 e7 hm => ?_)
 refine GS.open_ ?_
 refine GR.rM (i := 0) 5 (env' := fun _ => [(0,pA b 0),(1,.slice a 1 c),(16,pA b 0),(18,.func (.func 56) #[pA b 0] #[])]) (by kernel_rfl) (RunsTo.mk [] [0,1,16,18] [1,2] (fun _ => []) (fun _ => by kernel_rfl) (fun _ => trivial)) ?_
 intro _
 refine GR.callG (X := Unit) (i := 5) (g := 55) (ro := []) (mem' := fun (_ : Unit) => [(1,.cells b 136 (([.int .u32 1,.int .i32 0,.int .u32 0] : List Value) ++ (aU32 y6 ++ (([vI 1] : List Value))))),(2,.rd a 1 [[.int .u8 120]])]) (env' := fun (_ : Unit) => [(0,pA b 0),(1,.slice a 1 c)]) [1] [1] [0,1] [1,2] false (by kernel_rfl) (by kernel_rfl) (by kernel_rfl) (by kernel_rfl) (by kernel_rfl) (fun _ => rfl) (fun _ _ => rfl) trivial (by rintro _; kernel_rfl) (by rintro _; kernel_rfl) (do_ok F b 0 0 0 (List.replicate 256 0) 1 e7) ?_
 rintro _
 refine GR.dn (by kernel_rfl) ?_
 refine GS.seq ?_
 refine GS.tzM (fun _ => [(0,pA b 0),(1,.slice a 1 c),(5,.int .u32 4294967295)]) [] ?_
 intro _
 refine GS.seq ?_
 refine GS.seq ?_
 refine GS.tzM (fun _ => [(0,pA b 0),(5,.int .u32 4294967295),(20,.slice a 1 c),(21,vI 1),(22,vI 0)]) [] ?_
 intro _
 refine GS.block ?_
 refine GS.loop ?_
 refine GS.seq ?_
 refine GS.tzM (fun _ => [(0,pA b 0),(5,.int .u32 4294967295),(20,.slice a 1 c),(21,vI 1),(22,vI 0),(23,.bool true)]) [] ?_
 intro _
 refine GS.seq ?_
 refine GS.cond (t := true) rfl rfl (fun _ => ?_) (fun hf => by cases hf)
 refine GS.skip ?_
 refine GS.seq ?_
 refine GS.block ?_
 refine GS.seq ?_
 refine GS.tgM (fun _ => [(0,pA b 0),(5,.int .u32 4294967295),(7,.int .u8 120),(20,.slice a 1 c),(21,vI 1),(22,vI 0)]) [(0,{ act := .idx 2 0 }),(1,{ act := .load 2 0 0 [.int .u8 120] })] (fun _ => [a = a,1 = ([[.int .u8 120]] : List (List Value)).length,(0 : Int) = (0 : Int),0 < 1,blk a = blk a,offs a + 0 * 1 = offs a + (0 * 1 + 0),([[.int .u8 120]] : List (List Value))[0]? = some [.int .u8 120]]) (fun _ => ⟨rfl,rfl,rfl,(Nat.le_of_ble_eq_true rfl),rfl,rfl,rfl,trivial⟩) ?_
 intro _
 refine grd_elim hm (fun d hm => ?_)
 refine GS.tgM (fun _ => [(0,pA b 0),(5,.int .u32 (ixor .u32 16777215 (y6.getD 135 0))),(20,.slice a 1 c),(21,vI 1),(22,vI 0)]) [(10,{ act := .loadC 1 [.int .u32 (y6.getD 135 0)] })] (fun _ => [b = b,(([.int .u32 1,.int .i32 0,.int .u32 0] : List Value) ++ (aU32 y6 ++ (([vI 1] : List Value))))[138]? = some (.int .u32 (y6.getD 135 0))]) (fun _ => ⟨rfl,aU32_at2 (pre := ([.int .u32 1,.int .i32 0,.int .u32 0] : List Value)) (m := 3) rfl d (by omega),trivial⟩) ?_
 intro _
 refine GS.inBlock ?_
 refine GS.tzM (fun _ => [(0,pA b 0),(5,.int .u32 (ixor .u32 16777215 (y6.getD 135 0))),(20,.slice a 1 c),(21,vI 1),(22,vI 1)]) [] ?_
 intro _
 refine GS.inLoop ?_
 refine GS.seq ?_
 refine GS.tzM (fun _ => [(0,pA b 0),(5,.int .u32 (ixor .u32 16777215 (y6.getD 135 0))),(20,.slice a 1 c),(21,vI 1),(22,vI 1),(23,.bool false)]) [] ?_
 intro _
 refine GS.seq ?_
 refine GS.cond (t := false) rfl rfl (fun hf => by cases hf) (fun _ => ?_)
 refine GS.exit rfl ?_
 refine GS.seq ?_
 refine GS.tz (fun _ => [(4,.int .u32 (ixor .u32 4294967295 (ixor .u32 16777215 (y6.getD 135 0))))]) (fun _ => [(1,.cells b 136 (([.int .u32 1,.int .i32 0,.int .u32 0] : List Value) ++ (aU32 y6 ++ (([vI 1] : List Value)))))]) [] ?_
 intro _
 have hy := Option.some.inj hm
 subst hy
 refine GS.ret (fn := Try.f44) [0] [.int .u32 (ixor .u32 4294967295 (ixor .u32 16777215 (y6.getD 135 0)))] [] rfl Try.func44 (by kernel_rfl) trivial (fun w' hs => ?_)
 exact ⟨(),rfl,hs.turnedG (ks := [1]) rfl rfl⟩

theorem w_cmp_isNaN_int_ (F : Nat) {y : Unit} (hm : m_cmp_isNaN_int_ F = some y) : CallG Try.prog 36 #[vI 3] (X := Unit) (fun (_ : Unit) => .bool false) [] [] (fun (_ : Unit) => []) := by
 intro w hg
 rw [m_cmp_isNaN_int_] at hm
 refine GS.start (S := mayT [] []) (mem := []) Try.func36 rfl Try.ntmps36 (Nat.le_of_ble_eq_true rfl) (hg.start rfl) ?_
 refine GS.conv (env' := [(0,vI 3)]) rfl rfl ?_
 refine GS.seq ?_
 refine GS.tzM (fun _ => [(0,vI 3)]) [] ?_
 intro _
 refine GS.seq ?_
 refine GS.tzM (fun _ => [(2,.bool false)]) [] ?_
 intro _
 have hy := Option.some.inj hm
 subst hy
 refine GS.ret (fn := Try.f36) [0] [.bool false] [] rfl Try.func36 (by kernel_rfl) trivial (fun w' hs => ?_)
 exact ⟨(),rfl,hs.turnedG (ks := []) rfl rfl⟩

theorem w_cmp_isNaN_int__2 (F : Nat) {y : Unit} (hm : m_cmp_isNaN_int__2 F = some y) : CallG Try.prog 36 #[vI 0] (X := Unit) (fun (_ : Unit) => .bool false) [] [] (fun (_ : Unit) => []) := by
 intro w hg
 rw [m_cmp_isNaN_int__2] at hm
 refine GS.start (S := mayT [] []) (mem := []) Try.func36 rfl Try.ntmps36 (Nat.le_of_ble_eq_true rfl) (hg.start rfl) ?_
 refine GS.conv (env' := [(0,vI 0)]) rfl rfl ?_
 refine GS.seq ?_
 refine GS.tzM (fun _ => [(0,vI 0)]) [] ?_
 intro _
 refine GS.seq ?_
 refine GS.tzM (fun _ => [(2,.bool false)]) [] ?_
 intro _
 have hy := Option.some.inj hm
 subst hy
 refine GS.ret (fn := Try.f36) [0] [.bool false] [] rfl Try.func36 (by kernel_rfl) trivial (fun w' hs => ?_)
 exact ⟨(),rfl,hs.turnedG (ks := []) rfl rfl⟩

theorem w_cmp_Compare_int_ (F : Nat) {y : Unit} (hm : m_cmp_Compare_int_ F = some y) : CallG Try.prog 30 #[vI 3,vI 0] (X := Unit) (fun (_ : Unit) => vI 1) [] [] (fun (_ : Unit) => []) := by
 intro w hg
 rw [m_cmp_Compare_int_] at hm
 refine GS.start (S := mayT [] []) (mem := []) Try.func30 rfl Try.ntmps30 (Nat.le_of_ble_eq_true rfl) (hg.start rfl) ?_
 refine GS.conv (env' := [(0,vI 3),(1,vI 0)]) rfl rfl ?_
 refine GS.seq ?_
 refine GS.tzM (fun _ => [(0,vI 3),(1,vI 0)]) [] ?_
 intro _
 refine GS.seq ?_
 refine bnd_elim hm (fun y3 e4 hm => ?_)
 refine GS.tgM (fun _ => [(0,vI 3),(1,vI 0),(5,.bool false)]) [(1,{ act := .call [] (.bool false) })] (fun _ => [CallOK Try.prog 36 #[vI 3] (.bool false) []]) (fun _ => ⟨(by have h1 := w_cmp_isNaN_int_ F  e4; exact h1.ok trivial),trivial⟩) ?_
 intro _
 refine GS.seq ?_
 refine bnd_elim hm (fun y6 e7 hm => ?_)
 refine GS.tgM (fun _ => [(0,vI 3),(1,vI 0),(5,.bool false),(6,.bool false)]) [(1,{ act := .call [] (.bool false) })] (fun _ => [CallOK Try.prog 36 #[vI 0] (.bool false) []]) (fun _ => ⟨(by have h1 := w_cmp_isNaN_int__2 F  e7; exact h1.ok trivial),trivial⟩) ?_
 intro _
 refine GS.seq ?_
 refine GS.seq ?_
 refine GS.tzM (fun _ => [(0,vI 3),(1,vI 0),(6,.bool false),(11,.bool false)]) [] ?_
 intro _
 refine GS.cond (t := false) rfl rfl (fun hf => by cases hf) (fun _ => ?_)
 refine GS.skip ?_
 refine GS.seq ?_
 refine GS.seq ?_
 refine GS.tzM (fun _ => [(0,vI 3),(1,vI 0),(13,.bool false)]) [] ?_
 intro _
 refine GS.cond (t := false) rfl rfl (fun hf => by cases hf) (fun _ => ?_)
 refine GS.skip ?_
 refine GS.seq ?_
 refine GS.seq ?_
 refine GS.tzM (fun _ => [(0,vI 3),(1,vI 0),(16,.bool false)]) [] ?_
 intro _
 refine GS.cond (t := false) rfl rfl (fun hf => by cases hf) (fun _ => ?_)
 refine GS.skip ?_
 refine GS.seq ?_
 refine GS.seq ?_
 refine GS.tzM (fun _ => [(19,.bool true)]) [] ?_
 intro _
 refine GS.cond (t := true) rfl rfl (fun _ => ?_) (fun hf => by cases hf)
 refine GS.seq ?_
 refine GS.tzM (fun _ => [(4,vI 1)]) [] ?_
 intro _
 have hy := Option.some.inj hm
 subst hy
 refine GS.ret (fn := Try.f30) [0] [vI 1] [] rfl Try.func30 (by kernel_rfl) trivial (fun w' hs => ?_)
 exact ⟨(),rfl,hs.turnedG (ks := []) rfl rfl⟩

theorem w_pglog_Cmp (F : Nat) {y : Unit} (hm : m_pglog_Cmp F = some y) : CallG Try.prog 16 #[.agg #[vI 3,vI 1],.agg #[vI 0,vI 0]] (X := Unit) (fun (_ : Unit) => vI 1) [] [] (fun (_ : Unit) => []) := by
 intro w hg
 rw [m_pglog_Cmp] at hm
 refine GS.start (S := mayT [] []) (mem := []) Try.func16 rfl Try.ntmps16 (Nat.le_of_ble_eq_true rfl) (hg.start rfl) ?_
 refine GS.conv (env' := [(0,.agg #[vI 3,vI 1]),(1,.agg #[vI 0,vI 0])]) rfl rfl ?_
 refine GS.seq ?_
 refine GS.tz (fun a => [(2,pA ((a 0).x) 0),(3,pA ((a 1).x) 0)]) (fun a => [(1,.cells ((a 0).x) 26 [vI 3,vI 1]),(2,.cells ((a 1).x) 26 [vI 0,vI 0])]) [(0,{ act := .new .var,key := some 1 }),(1,{ act := .new .var,key := some 2 })] ?_
 intro a
 refine GS.seq ?_
 refine GS.seq ?_
 refine bnd_elim hm (fun y3 e4 hm => ?_)
 refine GS.tgM (fun _ => [(2,pA ((a 0).x) 0),(3,pA ((a 1).x) 0),(5,vI 1)]) [(1,{ act := .load 1 0 0 [] }),(3,{ act := .load 2 0 0 [] }),(4,{ act := .call [] (vI 1) })] (fun _ => [(a 0).x = (a 0).x,(a 1).x = (a 1).x,CallOK Try.prog 30 #[vI 3,vI 0] (vI 1) []]) (fun _ => ⟨rfl,rfl,(by have h1 := w_cmp_Compare_int_ F  e4; exact h1.ok trivial),trivial⟩) ?_
 intro _
 refine GS.seq ?_
 refine GS.tzM (fun _ => [(2,pA ((a 0).x) 0),(3,pA ((a 1).x) 0),(5,vI 1),(12,.bool true)]) [] ?_
 intro _
 refine GS.cond (t := true) rfl rfl (fun _ => ?_) (fun hf => by cases hf)
 refine GS.seq ?_
 refine GS.tz (fun _ => [(4,vI 1)]) (fun _ => []) [] ?_
 intro _
 have hy := Option.some.inj hm
 subst hy
 refine GS.ret (fn := Try.f16) [0] [vI 1] [] rfl Try.func16 (by kernel_rfl) trivial (fun w' hs => ?_)
 exact ⟨(),rfl,hs.turnedG (ks := []) rfl rfl⟩

theorem w_pglog_Copy_2 (F : Nat) (h : Option Addr) (k : Nat) (e : Option Addr) (j : Nat) (b : Option Addr) (i : Nat) {y : Unit} (hm : m_pglog_Copy_2 F = some y) : CallG Try.prog 11 #[.agg ((kc5 h k e j b i)).toArray] (X := Option Addr × Nat × Option Addr × Nat × Option Addr × Nat) (fun ⟨x0,x1,x2,x3,x4,x5⟩ => .agg ((kc5 x0 x1 x2 x3 x4 x5)).toArray) [] [.rd h 7 [],.rd e 5 [],.rd b 4 []] (fun ⟨x0,x1,x2,x3,x4,x5⟩ => [.osl x0 x1 52 7 [],.osl x2 x3 80 5 [],.osl x4 x5 76 4 []]) := by
 intro w hg
 rw [m_pglog_Copy_2] at hm
 refine GS.start (S := mayT [] [.rd h 7 [],.rd e 5 [],.rd b 4 []]) (mem := [(1,.rd h 7 []),(2,.rd e 5 []),(3,.rd b 4 [])]) Try.func11 rfl Try.ntmps11 (Nat.le_of_ble_eq_true rfl) (hg.start rfl) ?_
 refine GS.conv (env' := [(0,.agg ((kc5 h k e j b i)).toArray)]) rfl rfl ?_
 refine GS.seq ?_
 refine GS.tz (fun c => [(1,pA ((c 0).x) 0),(2,pA ((c 1).x) 0)]) (fun c => [(1,.rd h 7 []),(2,.rd e 5 []),(3,.rd b 4 []),(4,.cells ((c 0).x) 31 (kc5 h k e j b i)),(5,.cells ((c 1).x) 31 (kc2))]) [(0,{ act := .new .var,key := some 4 }),(1,{ act := .new .var,key := some 5 })] ?_
 intro c
 refine GS.seq ?_
 refine GS.tg (fun a => [(1,pA ((c 0).x) 0),(2,pA ((c 1).x) 0)]) (fun a => [(2,.rd e 5 []),(3,.rd b 4 []),(4,.cells ((c 0).x) 31 (kc5 ((a 2).ob) ((a 2).cap) e j b i)),(5,.cells ((c 1).x) 31 (kc2)),(6,.osl ((a 2).ob) ((a 2).cap) 52 7 ([] : List (List Value)))]) [(1,{ act := .load 4 0 0 [] }),(2,{ act := .app (some 1),key := some 6,spf := some (fun f => .slice (f.ob) 0 (f.cap)) }),(4,{ act := .store 0 0 [],key := some 4 })] (fun a => [(c 0).x = (c 0).x,h = h,0 = ([] : List (List Value)).length,0 = 0,0 = 0,([] : List (List Value)).length * (64 + 1) ≤ 70368744177664,((.slice ((a 2).ob) (0 + ([] : List (List Value)).length) ((a 2).cap)) : Value) = .slice ((a 2).ob) 0 ((a 2).cap),(c 0).x = (c 0).x,oC (.slice ((a 2).ob) 0 ((a 2).cap))]) (fun a => ⟨rfl,rfl,rfl,rfl,rfl,(show 0 * (64 + 1) ≤ 70368744177664 by decide),rfl,rfl,rfl,trivial⟩) ?_
 intro a
 refine GS.conv (mem' := [(2,.rd e 5 []),(3,.rd b 4 []),(4,.cells ((c 0).x) 31 (kc5 ((a 2).ob) ((a 2).cap) e j b i)),(5,.cells ((c 1).x) 31 (kc2)),(6,.osl ((a 2).ob) ((a 2).cap) 52 7 [])]) rfl (congrArg (fun rr : List (List Value) => ([(2,.rd e 5 []),(3,.rd b 4 []),(4,.cells ((c 0).x) 31 (kc5 ((a 2).ob) ((a 2).cap) e j b i)),(5,.cells ((c 1).x) 31 (kc2)),(6,.osl ((a 2).ob) ((a 2).cap) 52 7 rr)] : List (Nat × Ent))) (show ([] : List (List Value)) = ([] : List (List Value)) from rfl)) ?_
 refine GS.seq ?_
 refine GS.tg (fun d => [(1,pA ((c 0).x) 0),(2,pA ((c 1).x) 0)]) (fun d => [(3,.rd b 4 []),(4,.cells ((c 0).x) 31 (kc5 ((a 2).ob) ((a 2).cap) ((d 2).ob) ((d 2).cap) b i)),(5,.cells ((c 1).x) 31 (kc2)),(6,.osl ((a 2).ob) ((a 2).cap) 52 7 []),(7,.osl ((d 2).ob) ((d 2).cap) 80 5 ([] : List (List Value)))]) [(1,{ act := .load 4 0 0 [] }),(2,{ act := .app (some 2),key := some 7,spf := some (fun f => .slice (f.ob) 0 (f.cap)) }),(4,{ act := .store 0 0 [],key := some 4 })] (fun d => [(c 0).x = (c 0).x,e = e,0 = ([] : List (List Value)).length,0 = 0,0 = 0,([] : List (List Value)).length * (40 + 1) ≤ 70368744177664,((.slice ((d 2).ob) (0 + ([] : List (List Value)).length) ((d 2).cap)) : Value) = .slice ((d 2).ob) 0 ((d 2).cap),(c 0).x = (c 0).x,oC (.slice ((d 2).ob) 0 ((d 2).cap))]) (fun d => ⟨rfl,rfl,rfl,rfl,rfl,(show 0 * (40 + 1) ≤ 70368744177664 by decide),rfl,rfl,rfl,trivial⟩) ?_
 intro d
 refine GS.conv (mem' := [(3,.rd b 4 []),(4,.cells ((c 0).x) 31 (kc5 ((a 2).ob) ((a 2).cap) ((d 2).ob) ((d 2).cap) b i)),(5,.cells ((c 1).x) 31 (kc2)),(6,.osl ((a 2).ob) ((a 2).cap) 52 7 []),(7,.osl ((d 2).ob) ((d 2).cap) 80 5 [])]) rfl (congrArg (fun rr : List (List Value) => ([(3,.rd b 4 []),(4,.cells ((c 0).x) 31 (kc5 ((a 2).ob) ((a 2).cap) ((d 2).ob) ((d 2).cap) b i)),(5,.cells ((c 1).x) 31 (kc2)),(6,.osl ((a 2).ob) ((a 2).cap) 52 7 []),(7,.osl ((d 2).ob) ((d 2).cap) 80 5 rr)] : List (Nat × Ent))) (show ([] : List (List Value)) = ([] : List (List Value)) from rfl)) ?_
 refine GS.seq ?_
 refine GS.tg (fun g => [(1,pA ((c 0).x) 0),(2,pA ((c 1).x) 0)]) (fun g => [(4,.cells ((c 0).x) 31 (kc5 ((a 2).ob) ((a 2).cap) ((d 2).ob) ((d 2).cap) ((g 2).ob) ((g 2).cap))),(5,.cells ((c 1).x) 31 (kc2)),(6,.osl ((a 2).ob) ((a 2).cap) 52 7 []),(7,.osl ((d 2).ob) ((d 2).cap) 80 5 []),(8,.osl ((g 2).ob) ((g 2).cap) 76 4 ([] : List (List Value)))]) [(1,{ act := .load 4 0 0 [] }),(2,{ act := .app (some 3),key := some 8,spf := some (fun f => .slice (f.ob) 0 (f.cap)) }),(4,{ act := .store 0 0 [],key := some 4 })] (fun g => [(c 0).x = (c 0).x,b = b,0 = ([] : List (List Value)).length,0 = 0,0 = 0,([] : List (List Value)).length * (40 + 1) ≤ 70368744177664,((.slice ((g 2).ob) (0 + ([] : List (List Value)).length) ((g 2).cap)) : Value) = .slice ((g 2).ob) 0 ((g 2).cap),(c 0).x = (c 0).x,oC (.slice ((g 2).ob) 0 ((g 2).cap))]) (fun g => ⟨rfl,rfl,rfl,rfl,rfl,(show 0 * (40 + 1) ≤ 70368744177664 by decide),rfl,rfl,rfl,trivial⟩) ?_
 intro g
 refine GS.conv (mem' := [(4,.cells ((c 0).x) 31 (kc5 ((a 2).ob) ((a 2).cap) ((d 2).ob) ((d 2).cap) ((g 2).ob) ((g 2).cap))),(5,.cells ((c 1).x) 31 (kc2)),(6,.osl ((a 2).ob) ((a 2).cap) 52 7 []),(7,.osl ((d 2).ob) ((d 2).cap) 80 5 []),(8,.osl ((g 2).ob) ((g 2).cap) 76 4 [])]) rfl (congrArg (fun rr : List (List Value) => ([(4,.cells ((c 0).x) 31 (kc5 ((a 2).ob) ((a 2).cap) ((d 2).ob) ((d 2).cap) ((g 2).ob) ((g 2).cap))),(5,.cells ((c 1).x) 31 (kc2)),(6,.osl ((a 2).ob) ((a 2).cap) 52 7 []),(7,.osl ((d 2).ob) ((d 2).cap) 80 5 []),(8,.osl ((g 2).ob) ((g 2).cap) 76 4 rr)] : List (Nat × Ent))) (show ([] : List (List Value)) = ([] : List (List Value)) from rfl)) ?_
 refine GS.seq ?_
 refine GS.tg (fun _ => [(2,pA ((c 1).x) 0)]) (fun _ => [(5,.cells ((c 1).x) 31 (kc5 ((a 2).ob) ((a 2).cap) ((d 2).ob) ((d 2).cap) ((g 2).ob) ((g 2).cap))),(6,.osl ((a 2).ob) ((a 2).cap) 52 7 []),(7,.osl ((d 2).ob) ((d 2).cap) 80 5 []),(8,.osl ((g 2).ob) ((g 2).cap) 76 4 [])]) [(0,{ act := .load 4 0 0 [] }),(1,{ act := .store 0 0 [],key := some 5 })] (fun _ => [(c 0).x = (c 0).x,(c 1).x = (c 1).x,oC (.agg ((kc5 ((a 2).ob) ((a 2).cap) ((d 2).ob) ((d 2).cap) ((g 2).ob) ((g 2).cap))).toArray)]) (fun _ => ⟨rfl,rfl,rfl,trivial⟩) ?_
 intro _
 have hy := Option.some.inj hm
 subst hy
 refine GS.ret (fn := Try.f11) [5] [.agg ((kc5 ((a 2).ob) ((a 2).cap) ((d 2).ob) ((d 2).cap) ((g 2).ob) ((g 2).cap))).toArray] [(c 1).x = (c 1).x] rfl Try.func11 (by kernel_rfl) ⟨rfl,trivial⟩ (fun w' hs => ?_)
 exact ⟨⟨(a 2).ob,(a 2).cap,(d 2).ob,(d 2).cap,(g 2).ob,(g 2).cap⟩,rfl,hs.turnedG (ks := [6,7,8]) rfl rfl⟩

theorem w_slices_BinarySearchFunc___api_Last_api_Last_int_ (F : Nat) (a : Option Addr) (b a2c0b : Nat) {y : Unit} (hm : m_slices_BinarySearchFunc___api_Last_api_Last_int_ F = some y) : CallG Try.prog 58 #[.slice a 0 b,vI 5,.func (.func 59) #[] #[pA a2c0b 0]] (X := Unit) (fun (_ : Unit) => .tuple #[vI 0,.bool false]) [] [.rd a 5 [],.rd (some ⟨a2c0b,0,none⟩) 1 [[.func (.func 20) #[] #[]]]] (fun (_ : Unit) => []) := by
 intro w hg
 rw [m_slices_BinarySearchFunc___api_Last_api_Last_int_] at hm
 refine GS.start (S := mayT [] [.rd a 5 [],.rd (some ⟨a2c0b,0,none⟩) 1 [[.func (.func 20) #[] #[]]]]) (mem := [(1,.rd a 5 []),(2,.rd (some ⟨a2c0b,0,none⟩) 1 [[.func (.func 20) #[] #[]]])]) Try.func58 rfl Try.ntmps58 (Nat.le_of_ble_eq_true rfl) (hg.start rfl) ?_
 refine GS.conv (env' := [(0,.slice a 0 b),(1,vI 5),(2,.func (.func 59) #[] #[pA a2c0b 0])]) rfl rfl ?_
 refine GS.seq ?_
 refine GS.tzM (fun _ => [(0,.slice a 0 b),(1,vI 5),(2,.func (.func 59) #[] #[pA a2c0b 0])]) [] ?_
 intro _
 refine GS.seq ?_
 refine GS.tzM (fun _ => [(0,.slice a 0 b),(1,vI 5),(2,.func (.func 59) #[] #[pA a2c0b 0]),(8,vI 0)]) [] ?_
 intro _
 refine GS.seq ?_
 refine GS.tzM (fun _ => [(0,.slice a 0 b),(1,vI 5),(2,.func (.func 59) #[] #[pA a2c0b 0]),(8,vI 0),(9,vI 0),(10,vI 0)]) [] ?_
 intro _
 refine GS.seq ?_
 refine GS.block ?_
 refine GS.loop ?_
 refine GS.seq ?_
 refine GS.seq ?_
 refine GS.tzM (fun _ => [(0,.slice a 0 b),(1,vI 5),(2,.func (.func 59) #[] #[pA a2c0b 0]),(8,vI 0),(9,vI 0),(10,vI 0),(17,.bool false)]) [] ?_
 intro _
 refine GS.cond (t := false) rfl rfl (fun hf => by cases hf) (fun _ => ?_)
 refine GS.exit rfl ?_
 refine GS.seq ?_
 refine GS.tz (fun _ => [(6,vI 0),(7,.bool false)]) (fun _ => []) [] ?_
 intro _
 have hy := Option.some.inj hm
 subst hy
 refine GS.ret (fn := Try.f58) [0,0] [vI 0,.bool false] [] rfl Try.func58 (by kernel_rfl) trivial (fun w' hs => ?_)
 exact ⟨(),rfl,hs.turnedG (ks := []) rfl rfl⟩

theorem w_pglog_look_api_Last_int_ (F : Nat) (a : Option Addr) (c : Nat) {y : Unit} (hm : m_pglog_look_api_Last_int_ F = some y) : CallG Try.prog 49 #[.slice a 0 c,.func (.func 20) #[] #[],vI 5] (X := Unit) (fun (_ : Unit) => .tuple #[vI 0,.bool false]) [] [.rd a 5 []] (fun (_ : Unit) => []) := by
 intro w hg
 rw [m_pglog_look_api_Last_int_] at hm
 refine GS.start (S := mayT [] [.rd a 5 []]) (mem := [(1,.rd a 5 [])]) Try.func49 rfl Try.ntmps49 (Nat.le_of_ble_eq_true rfl) (hg.start rfl) ?_
 refine GS.conv (env' := [(0,.slice a 0 c),(1,.func (.func 20) #[] #[]),(2,vI 5)]) rfl rfl ?_
 refine GS.seq ?_
 refine GS.tz (fun b => [(0,.slice a 0 c),(2,vI 5),(4,pA ((b 0).x) 0)]) (fun b => [(1,.rd a 5 []),(2,.cells ((b 0).x) 81 [.func (.func 20) #[] #[]])]) [(0,{ act := .new .var,key := some 2 })] ?_
 intro b
 refine GS.seq ?_
 refine bnd_elim hm (fun y3 e4 hm => ?_)
 refine GS.tg (fun _ => [(6,vI 0),(7,.bool false)]) (fun _ => []) [(3,{ act := .call [1,2] (.tuple #[vI 0,.bool false]) })] (fun _ => [CallOK Try.prog 58 #[.slice a 0 c,vI 5,.func (.func 59) #[] #[pA ((b 0).x) 0]] (.tuple #[vI 0,.bool false]) [some (.rd a 5 []),some (.cells ((b 0).x) 81 [.func (.func 20) #[] #[]])]]) (fun _ => ⟨(by have h1 := w_slices_BinarySearchFunc___api_Last_api_Last_int_ F a c (b 0).x e4; exact h1.ok ⟨(.inl ⟨.rd a 5 [],.head _,Cov.refl _⟩),(.inl ⟨.cells ((b 0).x) 81 [.func (.func 20) #[] #[]],(.tail _ (.head _)),Cov.cells_rd⟩),trivial⟩),trivial⟩) ?_
 intro _
 have hy := Option.some.inj hm
 subst hy
 refine GS.ret (fn := Try.f49) [0,0] [vI 0,.bool false] [] rfl Try.func49 (by kernel_rfl) trivial (fun w' hs => ?_)
 exact ⟨(),rfl,hs.turnedG (ks := []) rfl rfl⟩

theorem w_slices_Insert___api_Last_api_Last_ (F : Nat) (c : Option Addr) (b : Nat) (e : Option Addr) (g : Nat) (i : 0 ≤ b) {y : Unit} (hm : m_slices_Insert___api_Last_api_Last_ F = some y) : CallG Try.prog 50 #[.slice c 0 b,vI 0,.slice e 1 g] (X := Option Addr × Nat) (fun ⟨x0,x1⟩ => .slice x0 1 x1) [.osl c b 80 5 []] [.rd e 5 [(kc20)]] (fun ⟨x0,x1⟩ => [.osl x0 x1 80 5 [(kc20)]]) := by
 intro w hg
 rw [m_slices_Insert___api_Last_api_Last_] at hm
 refine GS.start (S := mayT [.osl c b 80 5 []] [.rd e 5 [(kc20)]]) (mem := [(1,.osl c b 80 5 []),(2,.rd e 5 [(kc20)])]) Try.func50 rfl Try.ntmps50 (Nat.le_of_ble_eq_true rfl) (hg.start rfl) ?_
 refine GS.conv (env' := [(0,.slice c 0 b),(1,vI 0),(2,.slice e 1 g)]) rfl rfl ?_
 refine GS.seq ?_
 refine GS.tzM (fun _ => [(0,.slice c 0 b),(1,vI 0),(2,.slice e 1 g)]) [] ?_
 intro _
 refine GS.seq ?_
 refine GS.tgM (fun _ => [(0,.slice c 0 b),(1,vI 0),(2,.slice e 1 g)]) [(2,{ act := .cut 0 0 b,sp := some (.slice (cutOb c 0 b 5) 0 (b - 0)) })] (fun _ => [0 = (0 : Int),0 = 0,b = b,0 ≤ 0,0 ≤ b,b ≤ b,(none : Option Operand) = none → (none : Option Operand) = none,((.slice (if b = 0 then c else (c).map (fun a => a.add (0 * 5))) (0 - 0) (b - 0)) : Value) = .slice (cutOb c 0 b 5) 0 (b - 0)]) (fun _ => ⟨rfl,rfl,rfl,(Nat.le_of_ble_eq_true rfl),i,(Nat.le_refl _),(by intro h; first | rfl | cases h),rfl,trivial⟩) ?_
 intro _
 refine GS.seq ?_
 refine GS.tzM (fun _ => [(0,.slice c 0 b),(1,vI 0),(2,.slice e 1 g),(7,vI 1)]) [] ?_
 intro _
 refine GS.seq ?_
 refine GS.seq ?_
 refine GS.tzM (fun _ => [(0,.slice c 0 b),(1,vI 0),(2,.slice e 1 g),(7,vI 1),(16,.bool false)]) [] ?_
 intro _
 refine GS.cond (t := false) rfl rfl (fun hf => by cases hf) (fun _ => ?_)
 refine GS.skip ?_
 refine GS.seq ?_
 refine GS.tzM (fun _ => [(0,.slice c 0 b),(1,vI 0),(2,.slice e 1 g),(7,vI 1),(8,vI 0)]) [] ?_
 intro _
 refine GS.seq ?_
 refine GS.seq ?_
 refine GS.tzM (fun _ => [(0,.slice c 0 b),(1,vI 0),(2,.slice e 1 g),(7,vI 1),(8,vI 0),(22,.bool true)]) [] ?_
 intro _
 refine GS.cond (t := true) rfl rfl (fun _ => ?_) (fun hf => by cases hf)
 refine GS.seq ?_
 refine GS.tg (fun d => [(6,.slice ((d 2).ob) 1 ((d 2).cap))]) (fun d => [(1,.osl ((d 2).ob) ((d 2).cap) 80 5 (([] : List (List Value)) ++ ([(kc20)] : List (List Value))))]) [(2,{ act := .app (some 2),key := some 1,spf := some (fun f => .slice (f.ob) 1 (f.cap)) })] (fun d => [e = e,1 = ([(kc20)] : List (List Value)).length,c = c,b = b,0 = ([] : List (List Value)).length,(([] : List (List Value)).length + ([(kc20)] : List (List Value)).length) * (40 + 1) ≤ 70368744177664,([(kc20)] : List (List Value)).flatten.all Value.oneCell' = true,((.slice ((d 2).ob) (0 + ([(kc20)] : List (List Value)).length) ((d 2).cap)) : Value) = .slice ((d 2).ob) 1 ((d 2).cap)]) (fun d => ⟨rfl,rfl,rfl,rfl,rfl,(show (0 + 1) * (40 + 1) ≤ 70368744177664 by decide),rfl,rfl,trivial⟩) ?_
 intro d
 refine GS.conv (mem' := [(1,.osl ((d 2).ob) ((d 2).cap) 80 5 [(kc20)])]) rfl (congrArg (fun rr : List (List Value) => ([(1,.osl ((d 2).ob) ((d 2).cap) 80 5 rr)] : List (Nat × Ent))) (show ([] : List (List Value)) ++ ([(kc20)] : List (List Value)) = ([(kc20)] : List (List Value)) from rfl)) ?_
 have hy := Option.some.inj hm
 subst hy
 refine GS.ret (fn := Try.f50) [0] [.slice ((d 2).ob) 1 ((d 2).cap)] [] rfl Try.func50 (by kernel_rfl) trivial (fun w' hs => ?_)
 exact ⟨⟨(d 2).ob,(d 2).cap⟩,rfl,hs.turnedG (ks := [1]) rfl rfl⟩

theorem w_slices_BinarySearchFunc___api_Item_api_Item_string_ (F : Nat) (a : Option Addr) (b a2c0b : Nat) {y : Unit} (hm : m_slices_BinarySearchFunc___api_Item_api_Item_string_ F = some y) : CallG Try.prog 62 #[.slice a 0 b,.string (ByteArray.mk #[97]),.func (.func 63) #[] #[pA a2c0b 0]] (X := Unit) (fun (_ : Unit) => .tuple #[vI 0,.bool false]) [] [.rd a 4 [],.rd (some ⟨a2c0b,0,none⟩) 1 [[.func (.func 18) #[] #[]]]] (fun (_ : Unit) => []) := by
 intro w hg
 rw [m_slices_BinarySearchFunc___api_Item_api_Item_string_] at hm
 refine GS.start (S := mayT [] [.rd a 4 [],.rd (some ⟨a2c0b,0,none⟩) 1 [[.func (.func 18) #[] #[]]]]) (mem := [(1,.rd a 4 []),(2,.rd (some ⟨a2c0b,0,none⟩) 1 [[.func (.func 18) #[] #[]]])]) Try.func62 rfl Try.ntmps62 (Nat.le_of_ble_eq_true rfl) (hg.start rfl) ?_
 refine GS.conv (env' := [(0,.slice a 0 b),(1,.string (ByteArray.mk #[97])),(2,.func (.func 63) #[] #[pA a2c0b 0])]) rfl rfl ?_
 refine GS.seq ?_
 refine GS.tzM (fun _ => [(0,.slice a 0 b),(1,.string (ByteArray.mk #[97])),(2,.func (.func 63) #[] #[pA a2c0b 0])]) [] ?_
 intro _
 refine GS.seq ?_
 refine GS.tzM (fun _ => [(0,.slice a 0 b),(1,.string (ByteArray.mk #[97])),(2,.func (.func 63) #[] #[pA a2c0b 0]),(8,vI 0)]) [] ?_
 intro _
 refine GS.seq ?_
 refine GS.tzM (fun _ => [(0,.slice a 0 b),(1,.string (ByteArray.mk #[97])),(2,.func (.func 63) #[] #[pA a2c0b 0]),(8,vI 0),(9,vI 0),(10,vI 0)]) [] ?_
 intro _
 refine GS.seq ?_
 refine GS.block ?_
 refine GS.loop ?_
 refine GS.seq ?_
 refine GS.seq ?_
 refine GS.tzM (fun _ => [(0,.slice a 0 b),(1,.string (ByteArray.mk #[97])),(2,.func (.func 63) #[] #[pA a2c0b 0]),(8,vI 0),(9,vI 0),(10,vI 0),(17,.bool false)]) [] ?_
 intro _
 refine GS.cond (t := false) rfl rfl (fun hf => by cases hf) (fun _ => ?_)
 refine GS.exit rfl ?_
 refine GS.seq ?_
 refine GS.tz (fun _ => [(6,vI 0),(7,.bool false)]) (fun _ => []) [] ?_
 intro _
 have hy := Option.some.inj hm
 subst hy
 refine GS.ret (fn := Try.f62) [0,0] [vI 0,.bool false] [] rfl Try.func62 (by kernel_rfl) trivial (fun w' hs => ?_)
 exact ⟨(),rfl,hs.turnedG (ks := []) rfl rfl⟩

theorem w_pglog_look_api_Item_string_ (F : Nat) (a : Option Addr) (c : Nat) {y : Unit} (hm : m_pglog_look_api_Item_string_ F = some y) : CallG Try.prog 51 #[.slice a 0 c,.func (.func 18) #[] #[],.string (ByteArray.mk #[97])] (X := Unit) (fun (_ : Unit) => .tuple #[vI 0,.bool false]) [] [.rd a 4 []] (fun (_ : Unit) => []) := by
 intro w hg
 rw [m_pglog_look_api_Item_string_] at hm
 refine GS.start (S := mayT [] [.rd a 4 []]) (mem := [(1,.rd a 4 [])]) Try.func51 rfl Try.ntmps51 (Nat.le_of_ble_eq_true rfl) (hg.start rfl) ?_
 refine GS.conv (env' := [(0,.slice a 0 c),(1,.func (.func 18) #[] #[]),(2,.string (ByteArray.mk #[97]))]) rfl rfl ?_
 refine GS.seq ?_
 refine GS.tz (fun b => [(0,.slice a 0 c),(2,.string (ByteArray.mk #[97])),(4,pA ((b 0).x) 0)]) (fun b => [(1,.rd a 4 []),(2,.cells ((b 0).x) 77 [.func (.func 18) #[] #[]])]) [(0,{ act := .new .var,key := some 2 })] ?_
 intro b
 refine GS.seq ?_
 refine bnd_elim hm (fun y3 e4 hm => ?_)
 refine GS.tg (fun _ => [(6,vI 0),(7,.bool false)]) (fun _ => []) [(3,{ act := .call [1,2] (.tuple #[vI 0,.bool false]) })] (fun _ => [CallOK Try.prog 62 #[.slice a 0 c,.string (ByteArray.mk #[97]),.func (.func 63) #[] #[pA ((b 0).x) 0]] (.tuple #[vI 0,.bool false]) [some (.rd a 4 []),some (.cells ((b 0).x) 77 [.func (.func 18) #[] #[]])]]) (fun _ => ⟨(by have h1 := w_slices_BinarySearchFunc___api_Item_api_Item_string_ F a c (b 0).x e4; exact h1.ok ⟨(.inl ⟨.rd a 4 [],.head _,Cov.refl _⟩),(.inl ⟨.cells ((b 0).x) 77 [.func (.func 18) #[] #[]],(.tail _ (.head _)),Cov.cells_rd⟩),trivial⟩),trivial⟩) ?_
 intro _
 have hy := Option.some.inj hm
 subst hy
 refine GS.ret (fn := Try.f51) [0,0] [vI 0,.bool false] [] rfl Try.func51 (by kernel_rfl) trivial (fun w' hs => ?_)
 exact ⟨(),rfl,hs.turnedG (ks := []) rfl rfl⟩

theorem w_slices_Insert___api_Item_api_Item_ (F : Nat) (d : Option Addr) (b : Nat) (g : Option Addr) (i : Nat) (c : Int) (j : 0 ≤ b) {y : Int} (hm : m_slices_Insert___api_Item_api_Item_ F c = some y) : CallG Try.prog 53 #[.slice d 0 b,vI 0,.slice g 1 i] (X := Option Addr × Nat) (fun ⟨x0,x1⟩ => .slice x0 1 x1) [.osl d b 76 4 []] [.rd g 4 [(kc22 c)]] (fun ⟨x0,x1⟩ => [.osl x0 x1 76 4 [(kc22 y)]]) := by
 intro w hg
 rw [m_slices_Insert___api_Item_api_Item_] at hm
 refine GS.start (S := mayT [.osl d b 76 4 []] [.rd g 4 [(kc22 c)]]) (mem := [(1,.osl d b 76 4 []),(2,.rd g 4 [(kc22 c)])]) Try.func53 rfl Try.ntmps53 (Nat.le_of_ble_eq_true rfl) (hg.start rfl) ?_
 refine GS.conv (env' := [(0,.slice d 0 b),(1,vI 0),(2,.slice g 1 i)]) rfl rfl ?_
 refine GS.seq ?_
 refine GS.tzM (fun _ => [(0,.slice d 0 b),(1,vI 0),(2,.slice g 1 i)]) [] ?_
 intro _
 refine GS.seq ?_
 refine GS.tgM (fun _ => [(0,.slice d 0 b),(1,vI 0),(2,.slice g 1 i)]) [(2,{ act := .cut 0 0 b,sp := some (.slice (cutOb d 0 b 4) 0 (b - 0)) })] (fun _ => [0 = (0 : Int),0 = 0,b = b,0 ≤ 0,0 ≤ b,b ≤ b,(none : Option Operand) = none → (none : Option Operand) = none,((.slice (if b = 0 then d else (d).map (fun a => a.add (0 * 4))) (0 - 0) (b - 0)) : Value) = .slice (cutOb d 0 b 4) 0 (b - 0)]) (fun _ => ⟨rfl,rfl,rfl,(Nat.le_of_ble_eq_true rfl),j,(Nat.le_refl _),(by intro h; first | rfl | cases h),rfl,trivial⟩) ?_
 intro _
 refine GS.seq ?_
 refine GS.tzM (fun _ => [(0,.slice d 0 b),(1,vI 0),(2,.slice g 1 i),(7,vI 1)]) [] ?_
 intro _
 refine GS.seq ?_
 refine GS.seq ?_
 refine GS.tzM (fun _ => [(0,.slice d 0 b),(1,vI 0),(2,.slice g 1 i),(7,vI 1),(16,.bool false)]) [] ?_
 intro _
 refine GS.cond (t := false) rfl rfl (fun hf => by cases hf) (fun _ => ?_)
 refine GS.skip ?_
 refine GS.seq ?_
 refine GS.tzM (fun _ => [(0,.slice d 0 b),(1,vI 0),(2,.slice g 1 i),(7,vI 1),(8,vI 0)]) [] ?_
 intro _
 refine GS.seq ?_
 refine GS.seq ?_
 refine GS.tzM (fun _ => [(0,.slice d 0 b),(1,vI 0),(2,.slice g 1 i),(7,vI 1),(8,vI 0),(22,.bool true)]) [] ?_
 intro _
 refine GS.cond (t := true) rfl rfl (fun _ => ?_) (fun hf => by cases hf)
 refine GS.seq ?_
 refine GS.tg (fun e => [(6,.slice ((e 2).ob) 1 ((e 2).cap))]) (fun e => [(1,.osl ((e 2).ob) ((e 2).cap) 76 4 (([] : List (List Value)) ++ ([(kc22 c)] : List (List Value))))]) [(2,{ act := .app (some 2),key := some 1,spf := some (fun f => .slice (f.ob) 1 (f.cap)) })] (fun e => [g = g,1 = ([(kc22 c)] : List (List Value)).length,d = d,b = b,0 = ([] : List (List Value)).length,(([] : List (List Value)).length + ([(kc22 c)] : List (List Value)).length) * (40 + 1) ≤ 70368744177664,([(kc22 c)] : List (List Value)).flatten.all Value.oneCell' = true,((.slice ((e 2).ob) (0 + ([(kc22 c)] : List (List Value)).length) ((e 2).cap)) : Value) = .slice ((e 2).ob) 1 ((e 2).cap)]) (fun e => ⟨rfl,rfl,rfl,rfl,rfl,(show (0 + 1) * (40 + 1) ≤ 70368744177664 by decide),rfl,rfl,trivial⟩) ?_
 intro e
 refine GS.conv (mem' := [(1,.osl ((e 2).ob) ((e 2).cap) 76 4 [(kc22 c)])]) rfl (congrArg (fun rr : List (List Value) => ([(1,.osl ((e 2).ob) ((e 2).cap) 76 4 rr)] : List (Nat × Ent))) (show ([] : List (List Value)) ++ ([(kc22 c)] : List (List Value)) = ([(kc22 c)] : List (List Value)) from rfl)) ?_
 have hy := Option.some.inj hm
 subst hy
 refine GS.ret (fn := Try.f53) [0] [.slice ((e 2).ob) 1 ((e 2).cap)] [] rfl Try.func53 (by kernel_rfl) trivial (fun w' hs => ?_)
 exact ⟨⟨(e 2).ob,(e 2).cap⟩,rfl,hs.turnedG (ks := [1]) rfl rfl⟩

theorem w_pglog_Append (F : Nat) (c : Option Addr) (n : Nat) (d : Option Addr) (o : Nat) (e : Option Addr) (q : Nat) (a2 : Int) {y : Int} (hm : m_pglog_Append F a2 = some y) : CallG Try.prog 42 #[.agg ((kc5 c n d o e q)).toArray,.agg ((kc15)).toArray,.int .u32 a2] (X := Option Addr × Nat × Option Addr × Nat × Option Addr × Nat) (fun ⟨x0,x1,x2,x3,x4,x5⟩ => .tuple #[.agg ((kc23 x0 x1 x2 x3 x4 x5)).toArray,vI 0]) [] [.rd c 7 [],.rd d 5 [],.rd e 4 []] (fun ⟨x0,x1,x2,x3,x4,x5⟩ => [.osl x0 x1 52 7 [(kc15)],.osl x2 x3 80 5 [(kc20)],.osl x4 x5 76 4 [(kc22 y)]]) := by
 intro w hg
 rw [m_pglog_Append] at hm
 refine GS.start (S := mayT [] [.rd c 7 [],.rd d 5 [],.rd e 4 []]) (mem := [(1,.rd c 7 []),(2,.rd d 5 []),(3,.rd e 4 [])]) Try.func42 rfl Try.ntmps42 (Nat.le_of_ble_eq_true rfl) (hg.start rfl) ?_
 refine GS.conv (env' := [(0,.agg ((kc5 c n d o e q)).toArray),(1,.agg ((kc15)).toArray),(2,.int .u32 a2)]) rfl rfl ?_
 refine GS.seq ?_
 refine GS.tz (fun a => [(2,.int .u32 a2),(3,pA ((a 0).x) 0),(4,pA ((a 1).x) 0),(6,pA ((a 2).x) 0)]) (fun a => [(1,.rd c 7 []),(2,.rd d 5 []),(3,.rd e 4 []),(4,.cells ((a 0).x) 31 (kc5 c n d o e q)),(5,.cells ((a 1).x) 52 (kc15)),(6,.cells ((a 2).x) 31 (kc2))]) [(0,{ act := .new .var,key := some 4 }),(1,{ act := .new .var,key := some 5 }),(2,{ act := .new .var,key := some 6 })] ?_
 intro a
 refine GS.seq ?_
 refine bnd_elim hm (fun y3 e4 hm => ?_)
 refine GS.tgM (fun H => [(2,.int .u32 a2),(3,pA ((a 0).x) 0),(4,pA ((a 1).x) 0),(6,pA ((a 2).x) 0),(9,.bool false)]) [(0,{ act := .load 4 0 0 [] }),(2,{ act := .load 5 0 0 [] }),(3,{ act := .call [1,2,3] (.tuple #[.agg ((kc14)).toArray,.bool false]) }),(7,{ act := .new .var,key := some 7 }),(8,{ act := .store 0 0 [],key := some 7 })] (fun H => [(a 0).x = (a 0).x,(a 1).x = (a 1).x,CallOK Try.prog 35 #[.agg ((kc5 c n d o e q)).toArray,.string (ByteArray.mk #[97])] (.tuple #[.agg ((kc14)).toArray,.bool false]) [some (.rd c 7 []),some (.rd d 5 []),some (.rd e 4 [])],(H 7).x = (H 7).x,oC (.agg ((kc14)).toArray)]) (fun H => ⟨rfl,rfl,(by have h1 := w_pglog_Find F c n d o e q e4; exact h1.ok ⟨(.inl ⟨.rd c 7 [],.head _,Cov.refl _⟩),(.inl ⟨.rd d 5 [],(.tail _ (.head _)),Cov.refl _⟩),(.inl ⟨.rd e 4 [],(.tail _ (.tail _ (.head _))),Cov.refl _⟩),trivial⟩),rfl,rfl,trivial⟩) ?_
 intro H
 refine GS.seq ?_
 refine GS.block ?_
 refine GS.seq ?_
 refine bnd_elim hm (fun y6 e7 hm => ?_)
 refine bnd_elim hm (fun y8 e9 hm => ?_)
 refine GS.rM (env' := fun _ => [(2,.int .u32 a2),(3,pA ((a 0).x) 0),(4,pA ((a 1).x) 0),(6,pA ((a 2).x) 0),(9,.bool false),(23,.bool false)]) (RunsTo.mkd [(1,{ act := .load 5 0 0 [] }),(2,{ act := .load 4 0 0 [] }),(3,{ act := .call [1,2,3] (.agg #[vI 0,vI 0]) }),(4,{ act := .call [] (vI 1) }),(8,{ act := .load 5 0 0 [] }),(13,{ act := .load 5 0 0 [] })] [2,3,4,6,9,23] [1,2,3,4,5,6] (fun _ => [(a 1).x = (a 1).x,(a 0).x = (a 0).x,CallOK Try.prog 48 #[.agg ((kc5 c n d o e q)).toArray] (.agg #[vI 0,vI 0]) [some (.rd c 7 []),some (.rd d 5 []),some (.rd e 4 [])],CallOK Try.prog 16 #[.agg #[vI 3,vI 1],.agg #[vI 0,vI 0]] (vI 1) [],(a 1).x = (a 1).x,(a 1).x = (a 1).x]) (by kernel_rfl) (by kernel_rfl) (fun _ => by kernel_rfl) (fun _ => ⟨rfl,rfl,(by have h1 := w_pglog_Head F c n d o e q e7; exact h1.ok ⟨(.inl ⟨.rd c 7 [],.head _,Cov.refl _⟩),(.inl ⟨.rd d 5 [],(.tail _ (.head _)),Cov.refl _⟩),(.inl ⟨.rd e 4 [],(.tail _ (.tail _ (.head _))),Cov.refl _⟩),trivial⟩),(by have h1 := w_pglog_Cmp F  e9; exact h1.ok trivial),rfl,rfl,trivial⟩)) ?_
 intro _
 refine GS.cond (t := false) rfl rfl (fun hf => by cases hf) (fun _ => ?_)
 refine GS.seq ?_
 refine bnd_elim hm (fun R J hm => ?_)
 refine GS.tgM (fun _ => [(2,.int .u32 a2),(3,pA ((a 0).x) 0),(4,pA ((a 1).x) 0),(6,pA ((a 2).x) 0),(9,.bool false),(41,.bool false)]) [(1,{ act := .load 5 0 0 [] }),(2,{ act := .call [] (.bool true) })] (fun _ => [(a 1).x = (a 1).x,CallOK Try.prog 21 #[.string (ByteArray.mk #[97])] (.bool true) []]) (fun _ => ⟨rfl,(by have h1 := w_place_Good F  J; exact h1.ok trivial),trivial⟩) ?_
 intro _
 refine GS.cond (t := false) rfl rfl (fun hf => by cases hf) (fun _ => ?_)
 refine GS.seq ?_
 refine GS.tgM (fun _ => [(2,.int .u32 a2),(3,pA ((a 0).x) 0),(4,pA ((a 1).x) 0),(6,pA ((a 2).x) 0),(47,.bool false)]) [(1,{ act := .load 5 0 0 [] }),(5,{ act := .load 5 0 0 [] }),(14,{ act := .load 4 0 0 [] })] (fun _ => [(a 1).x = (a 1).x,(a 1).x = (a 1).x,(a 0).x = (a 0).x]) (fun _ => ⟨rfl,rfl,rfl,trivial⟩) ?_
 intro _
 refine GS.cond (t := false) rfl rfl (fun hf => by cases hf) (fun _ => ?_)
 refine GS.skip ?_
 refine GS.inBlock ?_
 refine GS.seq ?_
 refine bnd_elim hm (fun T K hm => ?_)
 refine GS.open_ ?_
 refine GR.rM (i := 0) 1 (env' := fun _ => [(2,.int .u32 a2),(3,pA ((a 0).x) 0),(4,pA ((a 1).x) 0),(6,pA ((a 2).x) 0),(67,.agg ((kc5 c n d o e q)).toArray)]) (by kernel_rfl) (RunsTo.mk [(0,{ act := .load 4 0 0 [] })] [2,3,4,6,67] [1,2,3,4,5,6] (fun _ => [(a 0).x = (a 0).x]) (fun _ => by kernel_rfl) (fun _ => ⟨rfl,trivial⟩)) ?_
 intro _
 refine GR.callG (X := Option Addr × Nat × Option Addr × Nat × Option Addr × Nat) (i := 1) (g := 11) (args := #[.agg ((kc5 c n d o e q)).toArray]) (v := fun ⟨E,G,m,l,k,j⟩ => .agg ((kc5 E G m l k j)).toArray) (own := []) (ro := [.rd c 7 [],.rd d 5 [],.rd e 4 []]) (es' := fun ⟨E,G,m,l,k,j⟩ => [.osl E G 52 7 [],.osl m l 80 5 [],.osl k j 76 4 []]) (mem' := fun ⟨E,G,m,l,k,j⟩ => [(1,.rd c 7 []),(2,.rd d 5 []),(3,.rd e 4 []),(4,.cells ((a 0).x) 31 (kc5 c n d o e q)),(5,.cells ((a 1).x) 52 (kc15)),(6,.cells ((a 2).x) 31 (kc2)),(8,.osl E G 52 7 []),(9,.osl m l 80 5 []),(10,.osl k j 76 4 [])]) (env' := fun ⟨E,G,m,l,k,j⟩ => [(2,.int .u32 a2),(3,pA ((a 0).x) 0),(4,pA ((a 1).x) 0),(6,pA ((a 2).x) 0),(68,.agg ((kc5 E G m l k j)).toArray)]) [] [8,9,10] [2,3,4,6,68] [1,2,3,4,5,6,8,9,10] false (by kernel_rfl) (by kernel_rfl) (by kernel_rfl) (by kernel_rfl) (by kernel_rfl) (fun _ => rfl) (fun _ _ => rfl) ⟨(.inl ⟨1,_,rfl,rfl,Cov.refl _,fun h => by cases h⟩),(.inl ⟨2,_,rfl,rfl,Cov.refl _,fun h => by cases h⟩),(.inl ⟨3,_,rfl,rfl,Cov.refl _,fun h => by cases h⟩),trivial⟩ (by rintro ⟨E,G,m,l,k,j⟩; kernel_rfl) (by rintro ⟨E,G,m,l,k,j⟩; kernel_rfl) ((by have h1 := w_pglog_Copy_2 F c n d o e q K; exact h1)) ?_
 rintro ⟨E,G,m,l,k,j⟩
 refine GR.ru (i := 2) 1 (env' := fun _ => [(2,.int .u32 a2),(3,pA ((a 0).x) 0),(4,pA ((a 1).x) 0),(6,pA ((a 2).x) 0)]) (mem' := fun _ => [(4,.cells ((a 0).x) 31 (kc5 E G m l k j)),(5,.cells ((a 1).x) 52 (kc15)),(6,.cells ((a 2).x) 31 (kc2)),(8,.osl E G 52 7 []),(9,.osl m l 80 5 []),(10,.osl k j 76 4 [])]) (by kernel_rfl) (RunsTo.mk [(2,{ act := .store 0 0 [],key := some 4 })] [2,3,4,6] [4,5,6,8,9,10] (fun _ => [(a 0).x = (a 0).x,oC (.agg ((kc5 E G m l k j)).toArray)]) (fun _ => by kernel_rfl) (fun _ => ⟨rfl,rfl,trivial⟩)) ?_
 intro _
 refine GR.dn (by kernel_rfl) ?_
 refine GS.seq ?_
 refine GS.tg (fun b => [(2,.int .u32 a2),(3,pA ((a 0).x) 0),(4,pA ((a 1).x) 0),(6,pA ((a 2).x) 0)]) (fun b => [(4,.cells ((a 0).x) 31 (kc19 ((b 4).ob) ((b 4).cap) m l k j)),(5,.cells ((a 1).x) 52 (kc15)),(6,.cells ((a 2).x) 31 (kc2)),(8,.osl ((b 4).ob) ((b 4).cap) 52 7 (([] : List (List Value)) ++ ([(kc15)] : List (List Value)))),(9,.osl m l 80 5 []),(10,.osl k j 76 4 [])]) [(1,{ act := .load 4 0 0 [] }),(2,{ act := .load 5 0 0 [] }),(3,{ act := .new (.row 1 7),key := some 11 }),(4,{ act := .app (some 11),key := some 8,spf := some (fun f => .slice (f.ob) 1 (f.cap)) }),(6,{ act := .store 0 0 [],key := some 4 })] (fun b => [(a 0).x = (a 0).x,(a 1).x = (a 1).x,(some (Addr.mk (b 3).x 0 none)) = (some (Addr.mk (b 3).x 0 none)),1 = ([(kc15)] : List (List Value)).length,E = E,G = G,0 = ([] : List (List Value)).length,(([] : List (List Value)).length + ([(kc15)] : List (List Value)).length) * (64 + 1) ≤ 70368744177664,([(kc15)] : List (List Value)).flatten.all Value.oneCell' = true,((.slice ((b 4).ob) (0 + ([(kc15)] : List (List Value)).length) ((b 4).cap)) : Value) = .slice ((b 4).ob) 1 ((b 4).cap),(a 0).x = (a 0).x,oC (.slice ((b 4).ob) 1 ((b 4).cap))]) (fun b => ⟨rfl,rfl,rfl,rfl,rfl,rfl,rfl,(show (0 + 1) * (64 + 1) ≤ 70368744177664 by decide),rfl,rfl,rfl,rfl,trivial⟩) ?_
 intro b
 refine GS.conv (mem' := [(4,.cells ((a 0).x) 31 (kc19 ((b 4).ob) ((b 4).cap) m l k j)),(5,.cells ((a 1).x) 52 (kc15)),(6,.cells ((a 2).x) 31 (kc2)),(8,.osl ((b 4).ob) ((b 4).cap) 52 7 [(kc15)]),(9,.osl m l 80 5 []),(10,.osl k j 76 4 [])]) rfl (congrArg (fun rr : List (List Value) => ([(4,.cells ((a 0).x) 31 (kc19 ((b 4).ob) ((b 4).cap) m l k j)),(5,.cells ((a 1).x) 52 (kc15)),(6,.cells ((a 2).x) 31 (kc2)),(8,.osl ((b 4).ob) ((b 4).cap) 52 7 rr),(9,.osl m l 80 5 []),(10,.osl k j 76 4 [])] : List (Nat × Ent))) (show ([] : List (List Value)) ++ ([(kc15)] : List (List Value)) = ([(kc15)] : List (List Value)) from rfl)) ?_
 refine GS.seq ?_
 refine GS.tg (fun z => [(2,.int .u32 a2),(3,pA ((a 0).x) 0),(4,pA ((a 1).x) 0),(6,pA ((a 2).x) 0),(10,pA ((z 9).x) 0)]) (fun z => [(4,.cells ((a 0).x) 31 (kc19 ((b 4).ob) ((b 4).cap) m l k j)),(5,.cells ((a 1).x) 52 (kc15)),(6,.cells ((a 2).x) 31 (kc2)),(8,.osl ((b 4).ob) ((b 4).cap) 52 7 [(kc15)]),(9,.osl m l 80 5 []),(10,.osl k j 76 4 []),(12,.cells ((z 9).x) 80 (kc20))]) [(1,{ act := .load 5 0 0 [] }),(3,{ act := .load 5 0 0 [] }),(5,{ act := .load 5 0 0 [] }),(7,{ act := .load 5 0 0 [] }),(9,{ act := .new .var,key := some 12 }),(10,{ act := .store 0 0 [],key := some 12 })] (fun z => [(a 1).x = (a 1).x,(a 1).x = (a 1).x,(a 1).x = (a 1).x,(a 1).x = (a 1).x,(z 9).x = (z 9).x,oC (.agg ((kc20)).toArray)]) (fun z => ⟨rfl,rfl,rfl,rfl,rfl,rfl,trivial⟩) ?_
 intro z
 refine GS.seq ?_
 refine GS.seq ?_
 refine bnd_elim hm (fun U L hm => ?_)
 refine GS.tgM (fun _ => [(2,.int .u32 a2),(3,pA ((a 0).x) 0),(4,pA ((a 1).x) 0),(6,pA ((a 2).x) 0),(10,pA ((z 9).x) 0),(11,vI 0),(12,.bool false)]) [(1,{ act := .load 4 0 0 [] }),(3,{ act := .load 5 0 0 [] }),(4,{ act := .call [9] (.tuple #[vI 0,.bool false]) })] (fun _ => [(a 0).x = (a 0).x,(a 1).x = (a 1).x,CallOK Try.prog 49 #[.slice m 0 l,.func (.func 20) #[] #[],vI 5] (.tuple #[vI 0,.bool false]) [some (.osl m l 80 5 [])]]) (fun _ => ⟨rfl,rfl,(by have h1 := w_pglog_look_api_Last_int_ F m l L; exact h1.ok ⟨(.inl ⟨.osl m l 80 5 [],.head _,Cov.osl_rd⟩),trivial⟩),trivial⟩) ?_
 intro _
 refine GS.seq ?_
 refine GS.tzM (fun _ => [(2,.int .u32 a2),(3,pA ((a 0).x) 0),(4,pA ((a 1).x) 0),(6,pA ((a 2).x) 0),(10,pA ((z 9).x) 0),(11,vI 0),(92,.bool false)]) [] ?_
 intro _
 refine GS.cond (t := false) rfl rfl (fun hf => by cases hf) (fun _ => ?_)
 refine GS.know (p := 0 ≤ l) (fun w hw => (hw.ok 9 _ rfl).1.1) (fun M => ?_)
 refine bnd_elim hm (fun V N hm => ?_)
 refine GS.open_ ?_
 refine GR.ru (i := 0) 5 (env' := fun C => [(2,.int .u32 a2),(3,pA ((a 0).x) 0),(4,pA ((a 1).x) 0),(6,pA ((a 2).x) 0),(99,.slice m 0 l),(100,vI 0),(102,.slice (some (Addr.mk (C 4).x 0 none)) 1 1)]) (mem' := fun C => [(4,.cells ((a 0).x) 31 (kc19 ((b 4).ob) ((b 4).cap) m l k j)),(5,.cells ((a 1).x) 52 (kc15)),(6,.cells ((a 2).x) 31 (kc2)),(8,.osl ((b 4).ob) ((b 4).cap) 52 7 [(kc15)]),(9,.osl m l 80 5 []),(10,.osl k j 76 4 []),(13,.osl (some (Addr.mk (C 4).x 0 none)) 1 80 5 [(kc20)])]) (by kernel_rfl) (RunsTo.mk [(1,{ act := .load 4 0 0 [] }),(3,{ act := .load 12 0 0 [] }),(4,{ act := .new (.row 1 5),key := some 13 })] [2,3,4,6,99,100,102] [4,5,6,8,9,10,13] (fun C => [(a 0).x = (a 0).x,(z 9).x = (z 9).x]) (fun C => by kernel_rfl) (fun C => ⟨rfl,rfl,trivial⟩)) ?_
 intro C
 refine GR.callG (X := Option Addr × Nat) (i := 5) (g := 50) (args := #[.slice m 0 l,vI 0,.slice (some (Addr.mk (C 4).x 0 none)) 1 1]) (v := fun ⟨r,s⟩ => .slice r 1 s) (own := [.osl m l 80 5 []]) (ro := [.rd (some (Addr.mk (C 4).x 0 none)) 5 [(kc20)]]) (es' := fun ⟨r,s⟩ => [.osl r s 80 5 [(kc20)]]) (mem' := fun ⟨r,s⟩ => [(4,.cells ((a 0).x) 31 (kc19 ((b 4).ob) ((b 4).cap) m l k j)),(5,.cells ((a 1).x) 52 (kc15)),(6,.cells ((a 2).x) 31 (kc2)),(8,.osl ((b 4).ob) ((b 4).cap) 52 7 [(kc15)]),(9,.osl r s 80 5 [(kc20)]),(10,.osl k j 76 4 []),(13,.osl (some (Addr.mk (C 4).x 0 none)) 1 80 5 [(kc20)])]) (env' := fun ⟨r,s⟩ => [(2,.int .u32 a2),(3,pA ((a 0).x) 0),(4,pA ((a 1).x) 0),(6,pA ((a 2).x) 0),(103,.slice r 1 s)]) [9] [9] [2,3,4,6,103] [4,5,6,8,9,10,13] false (by kernel_rfl) (by kernel_rfl) (by kernel_rfl) (by kernel_rfl) (by kernel_rfl) (fun _ => rfl) (fun _ _ => rfl) ⟨(.inl ⟨13,_,rfl,rfl,Cov.osl_rd,fun h => by cases h⟩),trivial⟩ (by rintro ⟨r,s⟩; kernel_rfl) (by rintro ⟨r,s⟩; kernel_rfl) ((by have h1 := w_slices_Insert___api_Last_api_Last_ F m l (some (Addr.mk (C 4).x 0 none)) 1 M N; exact h1)) ?_
 rintro ⟨r,s⟩
 refine GR.ru (i := 6) 2 (env' := fun _ => [(2,.int .u32 a2),(3,pA ((a 0).x) 0),(4,pA ((a 1).x) 0),(6,pA ((a 2).x) 0)]) (mem' := fun _ => [(4,.cells ((a 0).x) 31 (kc21 ((b 4).ob) ((b 4).cap) r s k j)),(5,.cells ((a 1).x) 52 (kc15)),(6,.cells ((a 2).x) 31 (kc2)),(8,.osl ((b 4).ob) ((b 4).cap) 52 7 [(kc15)]),(9,.osl r s 80 5 [(kc20)]),(10,.osl k j 76 4 [])]) (by kernel_rfl) (RunsTo.mk [(7,{ act := .store 0 0 [],key := some 4 })] [2,3,4,6] [4,5,6,8,9,10] (fun _ => [(a 0).x = (a 0).x,oC (.slice r 1 s)]) (fun _ => by kernel_rfl) (fun _ => ⟨rfl,rfl,trivial⟩)) ?_
 intro _
 refine GR.dn (by kernel_rfl) ?_
 refine GS.seq ?_
 refine GS.seq ?_
 refine GS.tgM (fun _ => [(2,.int .u32 a2),(3,pA ((a 0).x) 0),(4,pA ((a 1).x) 0),(6,pA ((a 2).x) 0),(107,.bool false)]) [(1,{ act := .load 5 0 0 [] })] (fun _ => [(a 1).x = (a 1).x]) (fun _ => ⟨rfl,trivial⟩) ?_
 intro _
 refine GS.cond (t := false) rfl rfl (fun hf => by cases hf) (fun _ => ?_)
 refine GS.skip ?_
 refine GS.seq ?_
 refine bnd_elim hm (fun W O hm => ?_)
 refine GS.tgM (fun _ => [(2,.int .u32 a2),(3,pA ((a 0).x) 0),(4,pA ((a 1).x) 0),(6,pA ((a 2).x) 0),(13,vI 0),(14,.bool false)]) [(1,{ act := .load 4 0 0 [] }),(3,{ act := .load 5 0 0 [] }),(4,{ act := .call [10] (.tuple #[vI 0,.bool false]) })] (fun _ => [(a 0).x = (a 0).x,(a 1).x = (a 1).x,CallOK Try.prog 51 #[.slice k 0 j,.func (.func 18) #[] #[],.string (ByteArray.mk #[97])] (.tuple #[vI 0,.bool false]) [some (.osl k j 76 4 [])]]) (fun _ => ⟨rfl,rfl,(by have h1 := w_pglog_look_api_Item_string_ F k j O; exact h1.ok ⟨(.inl ⟨.osl k j 76 4 [],.head _,Cov.osl_rd⟩),trivial⟩),trivial⟩) ?_
 intro _
 refine GS.seq ?_
 refine GS.tg (fun u => [(3,pA ((a 0).x) 0),(4,pA ((a 1).x) 0),(6,pA ((a 2).x) 0),(13,vI 0),(14,.bool false),(15,pA ((u 6).x) 0)]) (fun u => [(4,.cells ((a 0).x) 31 (kc21 ((b 4).ob) ((b 4).cap) r s k j)),(5,.cells ((a 1).x) 52 (kc15)),(6,.cells ((a 2).x) 31 (kc2)),(8,.osl ((b 4).ob) ((b 4).cap) 52 7 [(kc15)]),(9,.osl r s 80 5 [(kc20)]),(10,.osl k j 76 4 []),(14,.cells ((u 6).x) 76 (kc22 a2))]) [(1,{ act := .load 5 0 0 [] }),(3,{ act := .load 5 0 0 [] }),(6,{ act := .new .var,key := some 14 }),(7,{ act := .store 0 0 [],key := some 14 })] (fun u => [(a 1).x = (a 1).x,(a 1).x = (a 1).x,(u 6).x = (u 6).x,oC (.agg ((kc22 a2)).toArray)]) (fun u => ⟨rfl,rfl,rfl,rfl,trivial⟩) ?_
 intro u
 refine GS.seq ?_
 refine GS.block ?_
 refine GS.seq ?_
 refine GS.tgM (fun _ => [(3,pA ((a 0).x) 0),(4,pA ((a 1).x) 0),(6,pA ((a 2).x) 0),(13,vI 0),(14,.bool false),(15,pA ((u 6).x) 0),(130,.bool false)]) [(1,{ act := .load 5 0 0 [] })] (fun _ => [(a 1).x = (a 1).x]) (fun _ => ⟨rfl,trivial⟩) ?_
 intro _
 refine GS.cond (t := false) rfl rfl (fun hf => by cases hf) (fun _ => ?_)
 refine GS.seq ?_
 refine GS.tg (fun _ => [(3,pA ((a 0).x) 0),(6,pA ((a 2).x) 0),(13,vI 0),(14,.bool false),(15,pA ((u 6).x) 0),(143,.bool false)]) (fun _ => [(4,.cells ((a 0).x) 31 (kc21 ((b 4).ob) ((b 4).cap) r s k j)),(6,.cells ((a 2).x) 31 (kc2)),(8,.osl ((b 4).ob) ((b 4).cap) 52 7 [(kc15)]),(9,.osl r s 80 5 [(kc20)]),(10,.osl k j 76 4 []),(14,.cells ((u 6).x) 76 (kc22 a2))]) [(1,{ act := .load 5 0 0 [] })] (fun _ => [(a 1).x = (a 1).x]) (fun _ => ⟨rfl,trivial⟩) ?_
 intro _
 refine GS.cond (t := false) rfl rfl (fun hf => by cases hf) (fun _ => ?_)
 refine GS.seq ?_
 refine GS.tzM (fun _ => [(3,pA ((a 0).x) 0),(6,pA ((a 2).x) 0),(13,vI 0),(15,pA ((u 6).x) 0),(146,.bool false)]) [] ?_
 intro _
 refine GS.cond (t := false) rfl rfl (fun hf => by cases hf) (fun _ => ?_)
 refine GS.know (p := 0 ≤ j) (fun w hw => (hw.ok 10 _ rfl).1.1) (fun P => ?_)
 refine bnd_elim hm (fun I Q hm => ?_)
 refine GS.open_ ?_
 refine GR.ru (i := 0) 5 (env' := fun D => [(3,pA ((a 0).x) 0),(6,pA ((a 2).x) 0),(124,.slice k 0 j),(125,vI 0),(127,.slice (some (Addr.mk (D 4).x 0 none)) 1 1)]) (mem' := fun D => [(4,.cells ((a 0).x) 31 (kc21 ((b 4).ob) ((b 4).cap) r s k j)),(6,.cells ((a 2).x) 31 (kc2)),(8,.osl ((b 4).ob) ((b 4).cap) 52 7 [(kc15)]),(9,.osl r s 80 5 [(kc20)]),(10,.osl k j 76 4 []),(15,.osl (some (Addr.mk (D 4).x 0 none)) 1 76 4 [(kc22 a2)])]) (by kernel_rfl) (RunsTo.mk [(1,{ act := .load 4 0 0 [] }),(3,{ act := .load 14 0 0 [] }),(4,{ act := .new (.row 1 4),key := some 15 })] [3,6,124,125,127] [4,6,8,9,10,15] (fun D => [(a 0).x = (a 0).x,(u 6).x = (u 6).x]) (fun D => by kernel_rfl) (fun D => ⟨rfl,rfl,trivial⟩)) ?_
 intro D
 refine GR.callG (X := Option Addr × Nat) (i := 5) (g := 53) (args := #[.slice k 0 j,vI 0,.slice (some (Addr.mk (D 4).x 0 none)) 1 1]) (v := fun ⟨A,B⟩ => .slice A 1 B) (own := [.osl k j 76 4 []]) (ro := [.rd (some (Addr.mk (D 4).x 0 none)) 4 [(kc22 a2)]]) (es' := fun ⟨A,B⟩ => [.osl A B 76 4 [(kc22 I)]]) (mem' := fun ⟨A,B⟩ => [(4,.cells ((a 0).x) 31 (kc21 ((b 4).ob) ((b 4).cap) r s k j)),(6,.cells ((a 2).x) 31 (kc2)),(8,.osl ((b 4).ob) ((b 4).cap) 52 7 [(kc15)]),(9,.osl r s 80 5 [(kc20)]),(10,.osl A B 76 4 [(kc22 I)]),(15,.osl (some (Addr.mk (D 4).x 0 none)) 1 76 4 [(kc22 a2)])]) (env' := fun ⟨A,B⟩ => [(3,pA ((a 0).x) 0),(6,pA ((a 2).x) 0),(128,.slice A 1 B)]) [10] [10] [3,6,128] [4,6,8,9,10,15] false (by kernel_rfl) (by kernel_rfl) (by kernel_rfl) (by kernel_rfl) (by kernel_rfl) (fun _ => rfl) (fun _ _ => rfl) ⟨(.inl ⟨15,_,rfl,rfl,Cov.osl_rd,fun h => by cases h⟩),trivial⟩ (by rintro ⟨A,B⟩; kernel_rfl) (by rintro ⟨A,B⟩; kernel_rfl) ((by have h1 := w_slices_Insert___api_Item_api_Item_ F k j (some (Addr.mk (D 4).x 0 none)) 1 a2 P Q; exact h1)) ?_
 rintro ⟨A,B⟩
 refine GR.ru (i := 6) 2 (env' := fun _ => [(3,pA ((a 0).x) 0),(6,pA ((a 2).x) 0)]) (mem' := fun _ => [(4,.cells ((a 0).x) 31 (kc23 ((b 4).ob) ((b 4).cap) r s A B)),(6,.cells ((a 2).x) 31 (kc2)),(8,.osl ((b 4).ob) ((b 4).cap) 52 7 [(kc15)]),(9,.osl r s 80 5 [(kc20)]),(10,.osl A B 76 4 [(kc22 I)])]) (by kernel_rfl) (RunsTo.mk [(7,{ act := .store 0 0 [],key := some 4 })] [3,6] [4,6,8,9,10] (fun _ => [(a 0).x = (a 0).x,oC (.slice A 1 B)]) (fun _ => by kernel_rfl) (fun _ => ⟨rfl,rfl,trivial⟩)) ?_
 intro _
 refine GR.dn (by kernel_rfl) ?_
 refine GS.inBlock ?_
 refine GS.seq ?_
 refine GS.tg (fun _ => [(6,pA ((a 2).x) 0),(7,vI 0)]) (fun _ => [(6,.cells ((a 2).x) 31 (kc23 ((b 4).ob) ((b 4).cap) r s A B)),(8,.osl ((b 4).ob) ((b 4).cap) 52 7 [(kc15)]),(9,.osl r s 80 5 [(kc20)]),(10,.osl A B 76 4 [(kc22 I)])]) [(0,{ act := .load 4 0 0 [] }),(1,{ act := .store 0 0 [],key := some 6 })] (fun _ => [(a 0).x = (a 0).x,(a 2).x = (a 2).x,oC (.agg ((kc23 ((b 4).ob) ((b 4).cap) r s A B)).toArray)]) (fun _ => ⟨rfl,rfl,rfl,trivial⟩) ?_
 intro _
 have hy := Option.some.inj hm
 subst hy
 refine GS.ret (fn := Try.f42) [6,0] [.agg ((kc23 ((b 4).ob) ((b 4).cap) r s A B)).toArray,vI 0] [(a 2).x = (a 2).x] rfl Try.func42 (by kernel_rfl) ⟨rfl,trivial⟩ (fun w' hs => ?_)
 exact ⟨⟨(b 4).ob,(b 4).cap,r,s,A,B⟩,rfl,hs.turnedG (ks := [8,9,10]) rfl rfl⟩

theorem w_pglog_Copy_3 (F : Nat) (i : Option Addr) (l : Nat) (g : Option Addr) (k : Nat) (c : Option Addr) (j : Nat) (a : Int) {y : Int} (hm : m_pglog_Copy_3 F a = some y) : CallG Try.prog 11 #[.agg ((kc23 i l g k c j)).toArray] (X := Option Addr × Nat × Option Addr × Nat × Option Addr × Nat) (fun ⟨x0,x1,x2,x3,x4,x5⟩ => .agg ((kc23 x0 x1 x2 x3 x4 x5)).toArray) [] [.rd i 7 [(kc15)],.rd g 5 [(kc20)],.rd c 4 [(kc22 a)]] (fun ⟨x0,x1,x2,x3,x4,x5⟩ => [.osl x0 x1 52 7 [(kc15)],.osl x2 x3 80 5 [(kc20)],.osl x4 x5 76 4 [(kc22 y)]]) := by
 intro w hg
 rw [m_pglog_Copy_3] at hm
 refine GS.start (S := mayT [] [.rd i 7 [(kc15)],.rd g 5 [(kc20)],.rd c 4 [(kc22 a)]]) (mem := [(1,.rd i 7 [(kc15)]),(2,.rd g 5 [(kc20)]),(3,.rd c 4 [(kc22 a)])]) Try.func11 rfl Try.ntmps11 (Nat.le_of_ble_eq_true rfl) (hg.start rfl) ?_
 refine GS.conv (env' := [(0,.agg ((kc23 i l g k c j)).toArray)]) rfl rfl ?_
 refine GS.seq ?_
 refine GS.tz (fun d => [(1,pA ((d 0).x) 0),(2,pA ((d 1).x) 0)]) (fun d => [(1,.rd i 7 [(kc15)]),(2,.rd g 5 [(kc20)]),(3,.rd c 4 [(kc22 a)]),(4,.cells ((d 0).x) 31 (kc23 i l g k c j)),(5,.cells ((d 1).x) 31 (kc2))]) [(0,{ act := .new .var,key := some 4 }),(1,{ act := .new .var,key := some 5 })] ?_
 intro d
 refine GS.seq ?_
 refine GS.tg (fun b => [(1,pA ((d 0).x) 0),(2,pA ((d 1).x) 0)]) (fun b => [(2,.rd g 5 [(kc20)]),(3,.rd c 4 [(kc22 a)]),(4,.cells ((d 0).x) 31 (kc23 ((b 2).ob) ((b 2).cap) g k c j)),(5,.cells ((d 1).x) 31 (kc2)),(6,.osl ((b 2).ob) ((b 2).cap) 52 7 ([(kc15)] : List (List Value)))]) [(1,{ act := .load 4 0 0 [] }),(2,{ act := .app (some 1),key := some 6,spf := some (fun f => .slice (f.ob) 1 (f.cap)) }),(4,{ act := .store 0 0 [],key := some 4 })] (fun b => [(d 0).x = (d 0).x,i = i,1 = ([(kc15)] : List (List Value)).length,0 = 0,0 = 0,([(kc15)] : List (List Value)).length * (64 + 1) ≤ 70368744177664,((.slice ((b 2).ob) (0 + ([(kc15)] : List (List Value)).length) ((b 2).cap)) : Value) = .slice ((b 2).ob) 1 ((b 2).cap),(d 0).x = (d 0).x,oC (.slice ((b 2).ob) 1 ((b 2).cap))]) (fun b => ⟨rfl,rfl,rfl,rfl,rfl,(show 1 * (64 + 1) ≤ 70368744177664 by decide),rfl,rfl,rfl,trivial⟩) ?_
 intro b
 refine GS.conv (mem' := [(2,.rd g 5 [(kc20)]),(3,.rd c 4 [(kc22 a)]),(4,.cells ((d 0).x) 31 (kc23 ((b 2).ob) ((b 2).cap) g k c j)),(5,.cells ((d 1).x) 31 (kc2)),(6,.osl ((b 2).ob) ((b 2).cap) 52 7 [(kc15)])]) rfl (congrArg (fun rr : List (List Value) => ([(2,.rd g 5 [(kc20)]),(3,.rd c 4 [(kc22 a)]),(4,.cells ((d 0).x) 31 (kc23 ((b 2).ob) ((b 2).cap) g k c j)),(5,.cells ((d 1).x) 31 (kc2)),(6,.osl ((b 2).ob) ((b 2).cap) 52 7 rr)] : List (Nat × Ent))) (show ([(kc15)] : List (List Value)) = ([(kc15)] : List (List Value)) from rfl)) ?_
 refine GS.seq ?_
 refine GS.tg (fun e => [(1,pA ((d 0).x) 0),(2,pA ((d 1).x) 0)]) (fun e => [(3,.rd c 4 [(kc22 a)]),(4,.cells ((d 0).x) 31 (kc23 ((b 2).ob) ((b 2).cap) ((e 2).ob) ((e 2).cap) c j)),(5,.cells ((d 1).x) 31 (kc2)),(6,.osl ((b 2).ob) ((b 2).cap) 52 7 [(kc15)]),(7,.osl ((e 2).ob) ((e 2).cap) 80 5 ([(kc20)] : List (List Value)))]) [(1,{ act := .load 4 0 0 [] }),(2,{ act := .app (some 2),key := some 7,spf := some (fun f => .slice (f.ob) 1 (f.cap)) }),(4,{ act := .store 0 0 [],key := some 4 })] (fun e => [(d 0).x = (d 0).x,g = g,1 = ([(kc20)] : List (List Value)).length,0 = 0,0 = 0,([(kc20)] : List (List Value)).length * (40 + 1) ≤ 70368744177664,((.slice ((e 2).ob) (0 + ([(kc20)] : List (List Value)).length) ((e 2).cap)) : Value) = .slice ((e 2).ob) 1 ((e 2).cap),(d 0).x = (d 0).x,oC (.slice ((e 2).ob) 1 ((e 2).cap))]) (fun e => ⟨rfl,rfl,rfl,rfl,rfl,(show 1 * (40 + 1) ≤ 70368744177664 by decide),rfl,rfl,rfl,trivial⟩) ?_
 intro e
 refine GS.conv (mem' := [(3,.rd c 4 [(kc22 a)]),(4,.cells ((d 0).x) 31 (kc23 ((b 2).ob) ((b 2).cap) ((e 2).ob) ((e 2).cap) c j)),(5,.cells ((d 1).x) 31 (kc2)),(6,.osl ((b 2).ob) ((b 2).cap) 52 7 [(kc15)]),(7,.osl ((e 2).ob) ((e 2).cap) 80 5 [(kc20)])]) rfl (congrArg (fun rr : List (List Value) => ([(3,.rd c 4 [(kc22 a)]),(4,.cells ((d 0).x) 31 (kc23 ((b 2).ob) ((b 2).cap) ((e 2).ob) ((e 2).cap) c j)),(5,.cells ((d 1).x) 31 (kc2)),(6,.osl ((b 2).ob) ((b 2).cap) 52 7 [(kc15)]),(7,.osl ((e 2).ob) ((e 2).cap) 80 5 rr)] : List (Nat × Ent))) (show ([(kc20)] : List (List Value)) = ([(kc20)] : List (List Value)) from rfl)) ?_
 refine GS.seq ?_
 refine GS.tg (fun h => [(1,pA ((d 0).x) 0),(2,pA ((d 1).x) 0)]) (fun h => [(4,.cells ((d 0).x) 31 (kc23 ((b 2).ob) ((b 2).cap) ((e 2).ob) ((e 2).cap) ((h 2).ob) ((h 2).cap))),(5,.cells ((d 1).x) 31 (kc2)),(6,.osl ((b 2).ob) ((b 2).cap) 52 7 [(kc15)]),(7,.osl ((e 2).ob) ((e 2).cap) 80 5 [(kc20)]),(8,.osl ((h 2).ob) ((h 2).cap) 76 4 ([(kc22 a)] : List (List Value)))]) [(1,{ act := .load 4 0 0 [] }),(2,{ act := .app (some 3),key := some 8,spf := some (fun f => .slice (f.ob) 1 (f.cap)) }),(4,{ act := .store 0 0 [],key := some 4 })] (fun h => [(d 0).x = (d 0).x,c = c,1 = ([(kc22 a)] : List (List Value)).length,0 = 0,0 = 0,([(kc22 a)] : List (List Value)).length * (40 + 1) ≤ 70368744177664,((.slice ((h 2).ob) (0 + ([(kc22 a)] : List (List Value)).length) ((h 2).cap)) : Value) = .slice ((h 2).ob) 1 ((h 2).cap),(d 0).x = (d 0).x,oC (.slice ((h 2).ob) 1 ((h 2).cap))]) (fun h => ⟨rfl,rfl,rfl,rfl,rfl,(show 1 * (40 + 1) ≤ 70368744177664 by decide),rfl,rfl,rfl,trivial⟩) ?_
 intro h
 refine GS.conv (mem' := [(4,.cells ((d 0).x) 31 (kc23 ((b 2).ob) ((b 2).cap) ((e 2).ob) ((e 2).cap) ((h 2).ob) ((h 2).cap))),(5,.cells ((d 1).x) 31 (kc2)),(6,.osl ((b 2).ob) ((b 2).cap) 52 7 [(kc15)]),(7,.osl ((e 2).ob) ((e 2).cap) 80 5 [(kc20)]),(8,.osl ((h 2).ob) ((h 2).cap) 76 4 [(kc22 a)])]) rfl (congrArg (fun rr : List (List Value) => ([(4,.cells ((d 0).x) 31 (kc23 ((b 2).ob) ((b 2).cap) ((e 2).ob) ((e 2).cap) ((h 2).ob) ((h 2).cap))),(5,.cells ((d 1).x) 31 (kc2)),(6,.osl ((b 2).ob) ((b 2).cap) 52 7 [(kc15)]),(7,.osl ((e 2).ob) ((e 2).cap) 80 5 [(kc20)]),(8,.osl ((h 2).ob) ((h 2).cap) 76 4 rr)] : List (Nat × Ent))) (show ([(kc22 a)] : List (List Value)) = ([(kc22 a)] : List (List Value)) from rfl)) ?_
 refine GS.seq ?_
 refine GS.tg (fun _ => [(2,pA ((d 1).x) 0)]) (fun _ => [(5,.cells ((d 1).x) 31 (kc23 ((b 2).ob) ((b 2).cap) ((e 2).ob) ((e 2).cap) ((h 2).ob) ((h 2).cap))),(6,.osl ((b 2).ob) ((b 2).cap) 52 7 [(kc15)]),(7,.osl ((e 2).ob) ((e 2).cap) 80 5 [(kc20)]),(8,.osl ((h 2).ob) ((h 2).cap) 76 4 [(kc22 a)])]) [(0,{ act := .load 4 0 0 [] }),(1,{ act := .store 0 0 [],key := some 5 })] (fun _ => [(d 0).x = (d 0).x,(d 1).x = (d 1).x,oC (.agg ((kc23 ((b 2).ob) ((b 2).cap) ((e 2).ob) ((e 2).cap) ((h 2).ob) ((h 2).cap))).toArray)]) (fun _ => ⟨rfl,rfl,rfl,trivial⟩) ?_
 intro _
 have hy := Option.some.inj hm
 subst hy
 refine GS.ret (fn := Try.f11) [5] [.agg ((kc23 ((b 2).ob) ((b 2).cap) ((e 2).ob) ((e 2).cap) ((h 2).ob) ((h 2).cap))).toArray] [(d 1).x = (d 1).x] rfl Try.func11 (by kernel_rfl) ⟨rfl,trivial⟩ (fun w' hs => ?_)
 exact ⟨⟨(b 2).ob,(b 2).cap,(e 2).ob,(e 2).cap,(h 2).ob,(h 2).cap⟩,rfl,hs.turnedG (ks := [6,7,8]) rfl rfl⟩

theorem w_pglog_Trim (F : Nat) (b : Option Addr) (f : Nat) (c : Option Addr) (j : Nat) (d : Option Addr) (k : Nat) (e : Int) {y : Int} (hm : m_pglog_Trim F e = some y) : CallG Try.prog 45 #[.agg ((kc23 b f c j d k)).toArray,vI 32] (X := Option Addr × Nat × Option Addr × Nat × Option Addr × Nat) (fun ⟨x0,x1,x2,x3,x4,x5⟩ => .agg ((kc23 x0 x1 x2 x3 x4 x5)).toArray) [] [.rd b 7 [(kc15)],.rd c 5 [(kc20)],.rd d 4 [(kc22 e)]] (fun ⟨x0,x1,x2,x3,x4,x5⟩ => [.osl x0 x1 52 7 [(kc15)],.osl x2 x3 80 5 [(kc20)],.osl x4 x5 76 4 [(kc22 y)]]) := by
 intro w hg
 rw [m_pglog_Trim] at hm
 refine GS.start (S := mayT [] [.rd b 7 [(kc15)],.rd c 5 [(kc20)],.rd d 4 [(kc22 e)]]) (mem := [(1,.rd b 7 [(kc15)]),(2,.rd c 5 [(kc20)]),(3,.rd d 4 [(kc22 e)])]) Try.func45 rfl Try.ntmps45 (Nat.le_of_ble_eq_true rfl) (hg.start rfl) ?_
 refine GS.conv (env' := [(0,.agg ((kc23 b f c j d k)).toArray),(1,vI 32)]) rfl rfl ?_
 refine GS.seq ?_
 refine GS.tz (fun a => [(1,vI 32),(2,pA ((a 0).x) 0),(4,pA ((a 1).x) 0)]) (fun a => [(1,.rd b 7 [(kc15)]),(2,.rd c 5 [(kc20)]),(3,.rd d 4 [(kc22 e)]),(4,.cells ((a 0).x) 31 (kc23 b f c j d k)),(5,.cells ((a 1).x) 31 (kc2))]) [(0,{ act := .new .var,key := some 4 }),(1,{ act := .new .var,key := some 5 })] ?_
 intro a
 refine GS.seq ?_
 refine bnd_elim hm (fun y3 e4 hm => ?_)
 refine GS.open_ ?_
 refine GR.rM (i := 0) 1 (env' := fun _ => [(1,vI 32),(2,pA ((a 0).x) 0),(4,pA ((a 1).x) 0),(6,.agg ((kc23 b f c j d k)).toArray)]) (by kernel_rfl) (RunsTo.mk [(0,{ act := .load 4 0 0 [] })] [1,2,4,6] [1,2,3,4,5] (fun _ => [(a 0).x = (a 0).x]) (fun _ => by kernel_rfl) (fun _ => ⟨rfl,trivial⟩)) ?_
 intro _
 refine GR.callG (X := Option Addr × Nat × Option Addr × Nat × Option Addr × Nat) (i := 1) (g := 11) (args := #[.agg ((kc23 b f c j d k)).toArray]) (v := fun ⟨x5,x6,x7,x8,x9,l⟩ => .agg ((kc23 x5 x6 x7 x8 x9 l)).toArray) (own := []) (ro := [.rd b 7 [(kc15)],.rd c 5 [(kc20)],.rd d 4 [(kc22 e)]]) (es' := fun ⟨x5,x6,x7,x8,x9,l⟩ => [.osl x5 x6 52 7 [(kc15)],.osl x7 x8 80 5 [(kc20)],.osl x9 l 76 4 [(kc22 y3)]]) (mem' := fun ⟨x5,x6,x7,x8,x9,l⟩ => [(1,.rd b 7 [(kc15)]),(2,.rd c 5 [(kc20)]),(3,.rd d 4 [(kc22 e)]),(4,.cells ((a 0).x) 31 (kc23 b f c j d k)),(5,.cells ((a 1).x) 31 (kc2)),(6,.osl x5 x6 52 7 [(kc15)]),(7,.osl x7 x8 80 5 [(kc20)]),(8,.osl x9 l 76 4 [(kc22 y3)])]) (env' := fun ⟨x5,x6,x7,x8,x9,l⟩ => [(1,vI 32),(2,pA ((a 0).x) 0),(4,pA ((a 1).x) 0),(7,.agg ((kc23 x5 x6 x7 x8 x9 l)).toArray)]) [] [6,7,8] [1,2,4,7] [1,2,3,4,5,6,7,8] false (by kernel_rfl) (by kernel_rfl) (by kernel_rfl) (by kernel_rfl) (by kernel_rfl) (fun _ => rfl) (fun _ _ => rfl) ⟨(.inl ⟨1,_,rfl,rfl,Cov.refl _,fun h => by cases h⟩),(.inl ⟨2,_,rfl,rfl,Cov.refl _,fun h => by cases h⟩),(.inl ⟨3,_,rfl,rfl,Cov.refl _,fun h => by cases h⟩),trivial⟩ (by rintro ⟨x5,x6,x7,x8,x9,l⟩; kernel_rfl) (by rintro ⟨x5,x6,x7,x8,x9,l⟩; kernel_rfl) ((by have h1 := w_pglog_Copy_3 F b f c j d k e e4; exact h1)) ?_
 rintro ⟨x5,x6,x7,x8,x9,l⟩
 refine GR.ru (i := 2) 1 (env' := fun _ => [(1,vI 32),(2,pA ((a 0).x) 0),(4,pA ((a 1).x) 0)]) (mem' := fun _ => [(4,.cells ((a 0).x) 31 (kc23 x5 x6 x7 x8 x9 l)),(5,.cells ((a 1).x) 31 (kc2)),(6,.osl x5 x6 52 7 [(kc15)]),(7,.osl x7 x8 80 5 [(kc20)]),(8,.osl x9 l 76 4 [(kc22 y3)])]) (by kernel_rfl) (RunsTo.mk [(2,{ act := .store 0 0 [],key := some 4 })] [1,2,4] [4,5,6,7,8] (fun _ => [(a 0).x = (a 0).x,oC (.agg ((kc23 x5 x6 x7 x8 x9 l)).toArray)]) (fun _ => by kernel_rfl) (fun _ => ⟨rfl,rfl,trivial⟩)) ?_
 intro _
 refine GR.dn (by kernel_rfl) ?_
 refine GS.seq ?_
 refine GS.seq ?_
 refine GS.tgM (fun _ => [(2,pA ((a 0).x) 0),(4,pA ((a 1).x) 0),(5,vI (-31))]) [(1,{ act := .load 4 0 0 [] })] (fun _ => [(a 0).x = (a 0).x]) (fun _ => ⟨rfl,trivial⟩) ?_
 intro _
 refine GS.seq ?_
 refine GS.tzM (fun _ => [(2,pA ((a 0).x) 0),(4,pA ((a 1).x) 0),(5,vI (-31)),(15,.bool false)]) [] ?_
 intro _
 refine GS.cond (t := false) rfl rfl (fun hf => by cases hf) (fun _ => ?_)
 refine GS.skip ?_
 refine GS.seq ?_
 refine GS.tg (fun _ => [(4,pA ((a 1).x) 0)]) (fun _ => [(5,.cells ((a 1).x) 31 (kc23 x5 x6 x7 x8 x9 l)),(6,.osl x5 x6 52 7 [(kc15)]),(7,.osl x7 x8 80 5 [(kc20)]),(8,.osl x9 l 76 4 [(kc22 y3)])]) [(0,{ act := .load 4 0 0 [] }),(1,{ act := .store 0 0 [],key := some 5 })] (fun _ => [(a 0).x = (a 0).x,(a 1).x = (a 1).x,oC (.agg ((kc23 x5 x6 x7 x8 x9 l)).toArray)]) (fun _ => ⟨rfl,rfl,rfl,trivial⟩) ?_
 intro _
 have hy := Option.some.inj hm
 subst hy
 refine GS.ret (fn := Try.f45) [5] [.agg ((kc23 x5 x6 x7 x8 x9 l)).toArray] [(a 1).x = (a 1).x] rfl Try.func45 (by kernel_rfl) ⟨rfl,trivial⟩ (fun w' hs => ?_)
 exact ⟨⟨x5,x6,x7,x8,x9,l⟩,rfl,hs.turnedG (ks := [6,7,8]) rfl rfl⟩

theorem w_primary_copied (F : Nat) (a : Option Addr) (c : Nat) {y : Unit} (hm : m_primary_copied F = some y) : CallG Try.prog 57 #[.agg ((kc17 a c)).toArray] (X := Option Addr × Nat) (fun ⟨x0,x1⟩ => .agg ((kc17 x0 x1)).toArray) [] [.rd a 1 [[.int .u8 120]]] (fun ⟨x0,x1⟩ => [.osl x0 x1 5 1 [[.int .u8 120]]]) := by
 intro w hg
 rw [m_primary_copied] at hm
 refine GS.start (S := mayT [] [.rd a 1 [[.int .u8 120]]]) (mem := [(1,.rd a 1 [[.int .u8 120]])]) Try.func57 rfl Try.ntmps57 (Nat.le_of_ble_eq_true rfl) (hg.start rfl) ?_
 refine GS.conv (env' := [(0,.agg ((kc17 a c)).toArray)]) rfl rfl ?_
 refine GS.seq ?_
 refine GS.tz (fun b => [(1,pA ((b 0).x) 0),(2,pA ((b 1).x) 0)]) (fun b => [(1,.rd a 1 [[.int .u8 120]]),(2,.cells ((b 0).x) 54 (kc17 a c)),(3,.cells ((b 1).x) 54 (kc27))]) [(0,{ act := .new .var,key := some 2 }),(1,{ act := .new .var,key := some 3 })] ?_
 intro b
 refine GS.seq ?_
 refine bnd_elim hm (fun y3 e4 hm => ?_)
 refine GS.open_ ?_
 refine GR.rM (i := 0) 2 (env' := fun _ => [(1,pA ((b 0).x) 0),(2,pA ((b 1).x) 0),(4,.slice a 1 c)]) (by kernel_rfl) (RunsTo.mk [(1,{ act := .load 2 0 0 [] })] [1,2,4] [1,2,3] (fun _ => [(b 0).x = (b 0).x]) (fun _ => by kernel_rfl) (fun _ => ⟨rfl,trivial⟩)) ?_
 intro _
 refine GR.callG (X := Option Addr × Nat) (i := 2) (g := 26) (args := #[.slice a 1 c]) (v := fun ⟨x5,x6⟩ => .slice x5 1 x6) (own := []) (ro := [.rd a 1 [[.int .u8 120]]]) (es' := fun ⟨x5,x6⟩ => [.osl x5 x6 5 1 [[.int .u8 120]]]) (mem' := fun ⟨x5,x6⟩ => [(1,.rd a 1 [[.int .u8 120]]),(2,.cells ((b 0).x) 54 (kc17 a c)),(3,.cells ((b 1).x) 54 (kc27)),(4,.osl x5 x6 5 1 [[.int .u8 120]])]) (env' := fun ⟨x5,x6⟩ => [(1,pA ((b 0).x) 0),(2,pA ((b 1).x) 0),(5,.slice x5 1 x6)]) [] [4] [1,2,5] [1,2,3,4] false (by kernel_rfl) (by kernel_rfl) (by kernel_rfl) (by kernel_rfl) (by kernel_rfl) (fun _ => rfl) (fun _ _ => rfl) ⟨(.inl ⟨1,_,rfl,rfl,Cov.refl _,fun h => by cases h⟩),trivial⟩ (by rintro ⟨x5,x6⟩; kernel_rfl) (by rintro ⟨x5,x6⟩; kernel_rfl) ((by have h1 := w_slices_Clone___byte_byte_ F a c e4; exact h1)) ?_
 rintro ⟨x5,x6⟩
 refine GR.ru (i := 3) 2 (env' := fun _ => [(1,pA ((b 0).x) 0),(2,pA ((b 1).x) 0)]) (mem' := fun _ => [(2,.cells ((b 0).x) 54 (kc17 x5 x6)),(3,.cells ((b 1).x) 54 (kc27)),(4,.osl x5 x6 5 1 [[.int .u8 120]])]) (by kernel_rfl) (RunsTo.mk [(4,{ act := .store 0 0 [],key := some 2 })] [1,2] [2,3,4] (fun _ => [(b 0).x = (b 0).x,oC (.slice x5 1 x6)]) (fun _ => by kernel_rfl) (fun _ => ⟨rfl,rfl,trivial⟩)) ?_
 intro _
 refine GR.dn (by kernel_rfl) ?_
 refine GS.seq ?_
 refine GS.tg (fun _ => [(2,pA ((b 1).x) 0)]) (fun _ => [(3,.cells ((b 1).x) 54 (kc17 x5 x6)),(4,.osl x5 x6 5 1 [[.int .u8 120]])]) [(0,{ act := .load 2 0 0 [] }),(1,{ act := .store 0 0 [],key := some 3 })] (fun _ => [(b 0).x = (b 0).x,(b 1).x = (b 1).x,oC (.agg ((kc17 x5 x6)).toArray)]) (fun _ => ⟨rfl,rfl,rfl,trivial⟩) ?_
 intro _
 have hy := Option.some.inj hm
 subst hy
 refine GS.ret (fn := Try.f57) [3] [.agg ((kc17 x5 x6)).toArray] [(b 1).x = (b 1).x] rfl Try.func57 (by kernel_rfl) ⟨rfl,trivial⟩ (fun w' hs => ?_)
 exact ⟨⟨x5,x6⟩,rfl,hs.turnedG (ks := [4]) rfl rfl⟩

theorem w___primary_Machine__stored (F E : Nat) (s : Option Addr) (B : Nat) (n : Option Addr) (u : Nat) (k : Option Addr) (q : Nat) (l : Option Addr) (r : Nat) (o : Int) (p : Option Addr) (A e : Nat) (b : Option Addr) (f : Nat) (a : Option Addr) (d : Nat) (c : Option Addr) (j : Nat) {y : Int} (hm : m___primary_Machine__stored F o = some y) : CallG Try.prog 46 #[pA E 0,pA e 0,.agg ((kc9)).toArray] (X := Option Addr × Nat × Option Addr × Nat × Option Addr × Nat × Option Addr × Nat) (fun ⟨x0,x1,x2,x3,x4,x5,x6,x7⟩ => .agg ((kc28 x0 x1 x2 x3 x4 x5 x6 x7)).toArray) [] [.rd s 1 [[vI 1]],.rd n 7 [(kc15)],.rd k 5 [(kc20)],.rd l 4 [(kc22 o)],.rd p 46 [],.rd b 1 [[.int .u8 120]],.rd a 1 [[.int .u8 120]],.rd c 1 [[vI 1]],.rd (some ⟨e,0,none⟩) 61 [(kc18 b f a d c j)],.rd (some ⟨E,0,none⟩) 17 [(kc25 s B n u k q l r p A e)]] (fun ⟨x0,x1,x2,x3,x4,x5,x6,x7⟩ => [.osl x0 x1 52 7 [(kc15)],.osl x2 x3 80 5 [(kc20)],.osl x4 x5 76 4 [(kc22 y)],.osl x6 x7 5 1 [[.int .u8 120]]]) := by
 intro w hg
 rw [m___primary_Machine__stored] at hm
 refine GS.start (S := mayT [] [.rd s 1 [[vI 1]],.rd n 7 [(kc15)],.rd k 5 [(kc20)],.rd l 4 [(kc22 o)],.rd p 46 [],.rd b 1 [[.int .u8 120]],.rd a 1 [[.int .u8 120]],.rd c 1 [[vI 1]],.rd (some ⟨e,0,none⟩) 61 [(kc18 b f a d c j)],.rd (some ⟨E,0,none⟩) 17 [(kc25 s B n u k q l r p A e)]]) (mem := [(1,.rd s 1 [[vI 1]]),(2,.rd n 7 [(kc15)]),(3,.rd k 5 [(kc20)]),(4,.rd l 4 [(kc22 o)]),(5,.rd p 46 []),(6,.rd b 1 [[.int .u8 120]]),(7,.rd a 1 [[.int .u8 120]]),(8,.rd c 1 [[vI 1]]),(9,.rd (some ⟨e,0,none⟩) 61 [(kc18 b f a d c j)]),(10,.rd (some ⟨E,0,none⟩) 17 [(kc25 s B n u k q l r p A e)])]) Try.func46 rfl Try.ntmps46 (Nat.le_of_ble_eq_true rfl) (hg.start rfl) ?_
 refine GS.conv (env' := [(0,pA E 0),(1,pA e 0),(2,.agg ((kc9)).toArray)]) rfl rfl ?_
 refine GS.seq ?_
 refine GS.tz (fun m => [(0,pA E 0),(1,pA e 0),(5,pA ((m 0).x) 0),(6,pA ((m 1).x) 0)]) (fun m => [(1,.rd s 1 [[vI 1]]),(2,.rd n 7 [(kc15)]),(3,.rd k 5 [(kc20)]),(4,.rd l 4 [(kc22 o)]),(5,.rd p 46 []),(6,.rd b 1 [[.int .u8 120]]),(7,.rd a 1 [[.int .u8 120]]),(8,.rd c 1 [[vI 1]]),(9,.rd (some ⟨e,0,none⟩) 61 [(kc18 b f a d c j)]),(10,.rd (some ⟨E,0,none⟩) 17 [(kc25 s B n u k q l r p A e)]),(11,.cells ((m 0).x) 60 (kc9)),(12,.cells ((m 1).x) 60 (kc9))]) [(0,{ act := .new .var,key := some 11 }),(1,{ act := .new .var,key := some 12 })] ?_
 intro m
 refine GS.seq ?_
 refine bnd_elim hm (fun y3 e4 hm => ?_)
 refine GS.open_ ?_
 refine GR.ru (i := 0) 4 (env' := fun _ => [(1,pA e 0),(5,pA ((m 0).x) 0),(6,pA ((m 1).x) 0),(10,.agg ((kc23 n u k q l r)).toArray)]) (mem' := fun _ => [(2,.rd n 7 [(kc15)]),(3,.rd k 5 [(kc20)]),(4,.rd l 4 [(kc22 o)]),(6,.rd b 1 [[.int .u8 120]]),(7,.rd a 1 [[.int .u8 120]]),(8,.rd c 1 [[vI 1]]),(9,.rd (some ⟨e,0,none⟩) 61 [(kc18 b f a d c j)]),(11,.cells ((m 0).x) 60 (kc9)),(12,.cells ((m 1).x) 60 (kc9))]) (by kernel_rfl) (RunsTo.mk [(3,{ act := .load 10 0 6 [vI 1,vI 0,vI 3,vI 0,vI 9,.slice s 1 B,vI 3,vI 0,vI 0,.slice n 1 u,.slice k 1 q,.slice l 1 r,.slice p 0 A,pA e 0,.bool false,vI 0,.bool true] })] [1,5,6,10] [2,3,4,6,7,8,9,11,12] (fun _ => [E = blk (some ⟨E,0,none⟩),6 = offs (some ⟨E,0,none⟩) + (0 * 17 + 6),([(kc25 s B n u k q l r p A e)] : List (List Value))[0]? = some [vI 1,vI 0,vI 3,vI 0,vI 9,.slice s 1 B,vI 3,vI 0,vI 0,.slice n 1 u,.slice k 1 q,.slice l 1 r,.slice p 0 A,pA e 0,.bool false,vI 0,.bool true]]) (fun _ => by kernel_rfl) (fun _ => ⟨rfl,rfl,rfl,trivial⟩)) ?_
 intro _
 refine GR.callG (X := Option Addr × Nat × Option Addr × Nat × Option Addr × Nat) (i := 4) (g := 11) (args := #[.agg ((kc23 n u k q l r)).toArray]) (v := fun ⟨x5,x6,x7,x8,x9,z⟩ => .agg ((kc23 x5 x6 x7 x8 x9 z)).toArray) (own := []) (ro := [.rd n 7 [(kc15)],.rd k 5 [(kc20)],.rd l 4 [(kc22 o)]]) (es' := fun ⟨x5,x6,x7,x8,x9,z⟩ => [.osl x5 x6 52 7 [(kc15)],.osl x7 x8 80 5 [(kc20)],.osl x9 z 76 4 [(kc22 y3)]]) (mem' := fun ⟨x5,x6,x7,x8,x9,z⟩ => [(2,.rd n 7 [(kc15)]),(3,.rd k 5 [(kc20)]),(4,.rd l 4 [(kc22 o)]),(6,.rd b 1 [[.int .u8 120]]),(7,.rd a 1 [[.int .u8 120]]),(8,.rd c 1 [[vI 1]]),(9,.rd (some ⟨e,0,none⟩) 61 [(kc18 b f a d c j)]),(11,.cells ((m 0).x) 60 (kc9)),(12,.cells ((m 1).x) 60 (kc9)),(13,.osl x5 x6 52 7 [(kc15)]),(14,.osl x7 x8 80 5 [(kc20)]),(15,.osl x9 z 76 4 [(kc22 y3)])]) (env' := fun ⟨x5,x6,x7,x8,x9,z⟩ => [(1,pA e 0),(5,pA ((m 0).x) 0),(6,pA ((m 1).x) 0),(11,.agg ((kc23 x5 x6 x7 x8 x9 z)).toArray)]) [] [13,14,15] [1,5,6,11] [2,3,4,6,7,8,9,11,12,13,14,15] false (by kernel_rfl) (by kernel_rfl) (by kernel_rfl) (by kernel_rfl) (by kernel_rfl) (fun _ => rfl) (fun _ _ => rfl) ⟨(.inl ⟨2,_,rfl,rfl,Cov.refl _,fun h => by cases h⟩),(.inl ⟨3,_,rfl,rfl,Cov.refl _,fun h => by cases h⟩),(.inl ⟨4,_,rfl,rfl,Cov.refl _,fun h => by cases h⟩),trivial⟩ (by rintro ⟨x5,x6,x7,x8,x9,z⟩; kernel_rfl) (by rintro ⟨x5,x6,x7,x8,x9,z⟩; kernel_rfl) ((by have h1 := w_pglog_Copy_3 F n u k q l r o e4; exact h1)) ?_
 rintro ⟨x5,x6,x7,x8,x9,z⟩
 refine GR.ru (i := 5) 4 (env' := fun _ => [(1,pA e 0),(5,pA ((m 0).x) 0),(6,pA ((m 1).x) 0)]) (mem' := fun _ => [(6,.rd b 1 [[.int .u8 120]]),(7,.rd a 1 [[.int .u8 120]]),(8,.rd c 1 [[vI 1]]),(9,.rd (some ⟨e,0,none⟩) 61 [(kc18 b f a d c j)]),(11,.cells ((m 0).x) 60 (kc26 x5 x6 x7 x8 x9 z)),(12,.cells ((m 1).x) 60 (kc9)),(13,.osl x5 x6 52 7 [(kc15)]),(14,.osl x7 x8 80 5 [(kc20)]),(15,.osl x9 z 76 4 [(kc22 y3)])]) (by kernel_rfl) (RunsTo.mk [(6,{ act := .store 0 0 [],key := some 11 }),(8,{ act := .store 0 0 [],key := some 11 })] [1,5,6] [6,7,8,9,11,12,13,14,15] (fun _ => [(m 0).x = (m 0).x,oC (.bool true),(m 0).x = (m 0).x,oC (.agg ((kc23 x5 x6 x7 x8 x9 z)).toArray)]) (fun _ => by kernel_rfl) (fun _ => ⟨rfl,rfl,rfl,rfl,trivial⟩)) ?_
 intro _
 refine GR.dn (by kernel_rfl) ?_
 refine GS.seq ?_
 refine GS.seq ?_
 refine GS.tgM (fun _ => [(1,pA e 0),(5,pA ((m 0).x) 0),(6,pA ((m 1).x) 0),(19,.bool true)]) [(4,{ act := .load 9 0 50 [vI 30,vI 3,vI 0,vI 2,vI 0,vI 0,vI 0,vI 1,vI 0,vI 5,vI 1,vI 0,.slice none 0 0,.slice none 0 0,.slice none 0 0,vI 0,vI 0,vI 0,vI 0,vI 0,vI 0,vI 0,vI 0,vI 0,.slice none 0 0,.slice none 0 0,.slice none 0 0,vI 0,vI 0,.bool false,vI 0,.string (ByteArray.mk #[]),vI 0,vI 0,.string (ByteArray.mk #[]),vI 0,vI 0,.slice none 0 0,vI 2,.string (ByteArray.mk #[97]),.slice b 1 f,vI 0,vI 0,.slice none 0 0,.slice none 0 0,vI 0,.bool true,vI 3,vI 1,.bool false,vI 0,.string (ByteArray.mk #[97]),vI 5,vI 1,.string (ByteArray.mk #[97]),vI 3,vI 1,.slice a 1 d,vI 0,.slice c 1 j,.bool false] })] (fun _ => [e = blk (some ⟨e,0,none⟩),50 = offs (some ⟨e,0,none⟩) + (0 * 61 + 50),([(kc18 b f a d c j)] : List (List Value))[0]? = some [vI 30,vI 3,vI 0,vI 2,vI 0,vI 0,vI 0,vI 1,vI 0,vI 5,vI 1,vI 0,.slice none 0 0,.slice none 0 0,.slice none 0 0,vI 0,vI 0,vI 0,vI 0,vI 0,vI 0,vI 0,vI 0,vI 0,.slice none 0 0,.slice none 0 0,.slice none 0 0,vI 0,vI 0,.bool false,vI 0,.string (ByteArray.mk #[]),vI 0,vI 0,.string (ByteArray.mk #[]),vI 0,vI 0,.slice none 0 0,vI 2,.string (ByteArray.mk #[97]),.slice b 1 f,vI 0,vI 0,.slice none 0 0,.slice none 0 0,vI 0,.bool true,vI 3,vI 1,.bool false,vI 0,.string (ByteArray.mk #[97]),vI 5,vI 1,.string (ByteArray.mk #[97]),vI 3,vI 1,.slice a 1 d,vI 0,.slice c 1 j,.bool false]]) (fun _ => ⟨rfl,rfl,rfl,trivial⟩) ?_
 intro _
 refine GS.cond (t := true) rfl rfl (fun _ => ?_) (fun hf => by cases hf)
 refine GS.seq ?_
 refine GS.tgM (fun _ => [(1,pA e 0),(5,pA ((m 0).x) 0),(6,pA ((m 1).x) 0),(24,.bool false)]) [(4,{ act := .load 9 0 49 [vI 30,vI 3,vI 0,vI 2,vI 0,vI 0,vI 0,vI 1,vI 0,vI 5,vI 1,vI 0,.slice none 0 0,.slice none 0 0,.slice none 0 0,vI 0,vI 0,vI 0,vI 0,vI 0,vI 0,vI 0,vI 0,vI 0,.slice none 0 0,.slice none 0 0,.slice none 0 0,vI 0,vI 0,.bool false,vI 0,.string (ByteArray.mk #[]),vI 0,vI 0,.string (ByteArray.mk #[]),vI 0,vI 0,.slice none 0 0,vI 2,.string (ByteArray.mk #[97]),.slice b 1 f,vI 0,vI 0,.slice none 0 0,.slice none 0 0,vI 0,.bool true,vI 3,vI 1,.bool false,vI 0,.string (ByteArray.mk #[97]),vI 5,vI 1,.string (ByteArray.mk #[97]),vI 3,vI 1,.slice a 1 d,vI 0,.slice c 1 j,.bool false] })] (fun _ => [e = blk (some ⟨e,0,none⟩),49 = offs (some ⟨e,0,none⟩) + (0 * 61 + 49),([(kc18 b f a d c j)] : List (List Value))[0]? = some [vI 30,vI 3,vI 0,vI 2,vI 0,vI 0,vI 0,vI 1,vI 0,vI 5,vI 1,vI 0,.slice none 0 0,.slice none 0 0,.slice none 0 0,vI 0,vI 0,vI 0,vI 0,vI 0,vI 0,vI 0,vI 0,vI 0,.slice none 0 0,.slice none 0 0,.slice none 0 0,vI 0,vI 0,.bool false,vI 0,.string (ByteArray.mk #[]),vI 0,vI 0,.string (ByteArray.mk #[]),vI 0,vI 0,.slice none 0 0,vI 2,.string (ByteArray.mk #[97]),.slice b 1 f,vI 0,vI 0,.slice none 0 0,.slice none 0 0,vI 0,.bool true,vI 3,vI 1,.bool false,vI 0,.string (ByteArray.mk #[97]),vI 5,vI 1,.string (ByteArray.mk #[97]),vI 3,vI 1,.slice a 1 d,vI 0,.slice c 1 j,.bool false]]) (fun _ => ⟨rfl,rfl,rfl,trivial⟩) ?_
 intro _
 refine GS.cond (t := false) rfl rfl (fun hf => by cases hf) (fun _ => ?_)
 refine bnd_elim hm (fun H G hm => ?_)
 refine GS.open_ ?_
 refine GR.ru (i := 0) 4 (env' := fun _ => [(5,pA ((m 0).x) 0),(6,pA ((m 1).x) 0),(35,.agg ((kc17 a d)).toArray)]) (mem' := fun _ => [(7,.rd a 1 [[.int .u8 120]]),(11,.cells ((m 0).x) 60 (kc26 x5 x6 x7 x8 x9 z)),(12,.cells ((m 1).x) 60 (kc9)),(13,.osl x5 x6 52 7 [(kc15)]),(14,.osl x7 x8 80 5 [(kc20)]),(15,.osl x9 z 76 4 [(kc22 y3)])]) (by kernel_rfl) (RunsTo.mk [(3,{ act := .load 9 0 54 [vI 30,vI 3,vI 0,vI 2,vI 0,vI 0,vI 0,vI 1,vI 0,vI 5,vI 1,vI 0,.slice none 0 0,.slice none 0 0,.slice none 0 0,vI 0,vI 0,vI 0,vI 0,vI 0,vI 0,vI 0,vI 0,vI 0,.slice none 0 0,.slice none 0 0,.slice none 0 0,vI 0,vI 0,.bool false,vI 0,.string (ByteArray.mk #[]),vI 0,vI 0,.string (ByteArray.mk #[]),vI 0,vI 0,.slice none 0 0,vI 2,.string (ByteArray.mk #[97]),.slice b 1 f,vI 0,vI 0,.slice none 0 0,.slice none 0 0,vI 0,.bool true,vI 3,vI 1,.bool false,vI 0,.string (ByteArray.mk #[97]),vI 5,vI 1,.string (ByteArray.mk #[97]),vI 3,vI 1,.slice a 1 d,vI 0,.slice c 1 j,.bool false] })] [5,6,35] [7,11,12,13,14,15] (fun _ => [e = blk (some ⟨e,0,none⟩),54 = offs (some ⟨e,0,none⟩) + (0 * 61 + 54),([(kc18 b f a d c j)] : List (List Value))[0]? = some [vI 30,vI 3,vI 0,vI 2,vI 0,vI 0,vI 0,vI 1,vI 0,vI 5,vI 1,vI 0,.slice none 0 0,.slice none 0 0,.slice none 0 0,vI 0,vI 0,vI 0,vI 0,vI 0,vI 0,vI 0,vI 0,vI 0,.slice none 0 0,.slice none 0 0,.slice none 0 0,vI 0,vI 0,.bool false,vI 0,.string (ByteArray.mk #[]),vI 0,vI 0,.string (ByteArray.mk #[]),vI 0,vI 0,.slice none 0 0,vI 2,.string (ByteArray.mk #[97]),.slice b 1 f,vI 0,vI 0,.slice none 0 0,.slice none 0 0,vI 0,.bool true,vI 3,vI 1,.bool false,vI 0,.string (ByteArray.mk #[97]),vI 5,vI 1,.string (ByteArray.mk #[97]),vI 3,vI 1,.slice a 1 d,vI 0,.slice c 1 j,.bool false]]) (fun _ => by kernel_rfl) (fun _ => ⟨rfl,rfl,rfl,trivial⟩)) ?_
 intro _
 refine GR.callG (X := Option Addr × Nat) (i := 4) (g := 57) (args := #[.agg ((kc17 a d)).toArray]) (v := fun ⟨C,D⟩ => .agg ((kc17 C D)).toArray) (own := []) (ro := [.rd a 1 [[.int .u8 120]]]) (es' := fun ⟨C,D⟩ => [.osl C D 5 1 [[.int .u8 120]]]) (mem' := fun ⟨C,D⟩ => [(7,.rd a 1 [[.int .u8 120]]),(11,.cells ((m 0).x) 60 (kc26 x5 x6 x7 x8 x9 z)),(12,.cells ((m 1).x) 60 (kc9)),(13,.osl x5 x6 52 7 [(kc15)]),(14,.osl x7 x8 80 5 [(kc20)]),(15,.osl x9 z 76 4 [(kc22 y3)]),(16,.osl C D 5 1 [[.int .u8 120]])]) (env' := fun ⟨C,D⟩ => [(5,pA ((m 0).x) 0),(6,pA ((m 1).x) 0),(36,.agg ((kc17 C D)).toArray)]) [] [16] [5,6,36] [7,11,12,13,14,15,16] false (by kernel_rfl) (by kernel_rfl) (by kernel_rfl) (by kernel_rfl) (by kernel_rfl) (fun _ => rfl) (fun _ _ => rfl) ⟨(.inl ⟨7,_,rfl,rfl,Cov.refl _,fun h => by cases h⟩),trivial⟩ (by rintro ⟨C,D⟩; kernel_rfl) (by rintro ⟨C,D⟩; kernel_rfl) ((by have h1 := w_primary_copied F a d G; exact h1)) ?_
 rintro ⟨C,D⟩
 refine GR.ru (i := 5) 4 (env' := fun _ => [(5,pA ((m 0).x) 0),(6,pA ((m 1).x) 0)]) (mem' := fun _ => [(11,.cells ((m 0).x) 60 (kc28 x5 x6 x7 x8 x9 z C D)),(12,.cells ((m 1).x) 60 (kc9)),(13,.osl x5 x6 52 7 [(kc15)]),(14,.osl x7 x8 80 5 [(kc20)]),(15,.osl x9 z 76 4 [(kc22 y3)]),(16,.osl C D 5 1 [[.int .u8 120]])]) (by kernel_rfl) (RunsTo.mk [(6,{ act := .store 0 0 [],key := some 11 }),(8,{ act := .store 0 0 [],key := some 11 })] [5,6] [11,12,13,14,15,16] (fun _ => [(m 0).x = (m 0).x,oC (.bool true),(m 0).x = (m 0).x,oC (.agg ((kc17 C D)).toArray)]) (fun _ => by kernel_rfl) (fun _ => ⟨rfl,rfl,rfl,rfl,trivial⟩)) ?_
 intro _
 refine GR.dn (by kernel_rfl) ?_
 refine GS.seq ?_
 refine GS.tg (fun _ => [(6,pA ((m 1).x) 0)]) (fun _ => [(12,.cells ((m 1).x) 60 (kc28 x5 x6 x7 x8 x9 z C D)),(13,.osl x5 x6 52 7 [(kc15)]),(14,.osl x7 x8 80 5 [(kc20)]),(15,.osl x9 z 76 4 [(kc22 y3)]),(16,.osl C D 5 1 [[.int .u8 120]])]) [(0,{ act := .load 11 0 0 [] }),(1,{ act := .store 0 0 [],key := some 12 })] (fun _ => [(m 0).x = (m 0).x,(m 1).x = (m 1).x,oC (.agg ((kc28 x5 x6 x7 x8 x9 z C D)).toArray)]) (fun _ => ⟨rfl,rfl,rfl,trivial⟩) ?_
 intro _
 have hy := Option.some.inj hm
 subst hy
 refine GS.ret (fn := Try.f46) [12] [.agg ((kc28 x5 x6 x7 x8 x9 z C D)).toArray] [(m 1).x = (m 1).x] rfl Try.func46 (by kernel_rfl) ⟨rfl,trivial⟩ (fun w' hs => ?_)
 exact ⟨⟨x5,x6,x7,x8,x9,z,C,D⟩,rfl,hs.turnedG (ks := [13,14,15,16]) rfl rfl⟩

end Go.Proofs.Ytjnbkhnebmlilaa
