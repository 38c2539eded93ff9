/-
 CHAPTER 18r: the functions do what their models say (1).
-/
import Derived.Test.YtjnbkhnebmlilaaE18r
set_option linter.unusedVariables false
set_option linter.unusedSimpArgs false
set_option maxRecDepth 100000
set_option maxHeartbeats 8000000
namespace Go.Proofs.Ytjnbkhnebmlilaa
open Go Go.RowKit Sx

theorem w_tholelaw18_twice (F : Nat) (a : Option Addr) (c : Nat) (a0 : List Int) {y : Bool} (hm : m_tholelaw18_twice F a0 = some y) : CallG Try.prog 4 #[.slice a a0.length c] (X := Unit) (fun (_ : Unit) => .bool y) [] [r3 a a0] (fun (_ : Unit) => []) := by
 intro w hg
 rw [m_tholelaw18_twice] at hm
 refine GS.start (S := mayT [] [r3 a a0]) (mem := [(1,r3 a a0)]) Try.func4 rfl Try.ntmps4 (Nat.le_of_ble_eq_true rfl) (hg.start rfl) ?_
 refine GS.conv (env' := [(0,.slice a a0.length c)]) rfl rfl ?_
 refine GS.seq ?_
 refine GS.tzM (fun _ => [(0,.slice a a0.length c)]) [] ?_
 intro _
 refine GS.seq ?_
 refine GS.seq ?_
 refine GS.tzM (fun _ => [(0,.slice a a0.length c),(6,.slice a a0.length c),(7,vI (a0.length : Int)),(8,vI 0)]) [] ?_
 intro _
 refine GS.block ?_
 refine GS.loop ?_
 refine grd_elim hm (fun n hm => ?_)
 refine GS.rekey (env' := [(0,.slice a a0.length c),(6,.slice a a0.length c),(7,vI (a0.length : Int)),(8,vI 0)]) (mem' := [(1,r3 a a0)]) [0,6,7,8] [(1,1)] (by kernel_rfl) (by kernel_rfl) rfl ?_
 refine loopL_elim hm (fun st96 fn97 hst98 hfn99 hm => ?_)
 refine GS.loopInv (ι := List Int × Nat) (I := fun ⟨e,b⟩ => a0.drop b = e ∧ loopL st96 fn97 e b () = some y) (μ := fun ⟨e,b⟩ => e.length) (E := fun ⟨e,b⟩ => [(0,.slice a a0.length c),(6,.slice a a0.length c),(7,vI (a0.length : Int)),(8,vI (b : Int))]) (M := fun ⟨e,b⟩ => [(1,r3 a a0)]) ?_ ⟨a0,0⟩ ⟨List.drop_zero ..,hm⟩
 rintro ⟨e,b⟩ ⟨h,hm⟩ k
 cases e with
 | nil =>
  replace hm := (hfn99 _ _).symm.trans hm
  try dsimp only at hm
  refine GS.seq ?_
  refine GS.tzM (fun _ => [(0,.slice a a0.length c),(6,.slice a a0.length c),(7,vI (a0.length : Int)),(8,vI (b : Int)),(9,.bool (decide ((b : Int) < (a0.length : Int))))]) [] ?_
  intro _
  refine GS.seq ?_
  refine GS.cond (t := decide ((b : Int) < (a0.length : Int))) rfl rfl (fun o => absb o (drop_dec0 h)) (fun _ => ?_)
  refine GS.exit rfl ?_
  refine GS.seq ?_
  refine GS.tz (fun _ => [(2,.bool (decide ((a0.length : Int) > 20)))]) (fun _ => []) [] ?_
  intro _
  have hy := Option.some.inj hm
  subst hy
  refine GS.ret (fn := Try.f4) [0] [.bool (decide ((a0.length : Int) > 20))] [] rfl Try.func4 (by kernel_rfl) trivial (fun w' hs => ?_)
  exact ⟨(),rfl,hs.turnedG (ks := []) rfl rfl⟩
 | cons g e =>
  replace hm := (hst98 _ _ _ _).symm.trans hm
  try dsimp only at hm
  refine GS.seq ?_
  refine GS.tzM (fun _ => [(0,.slice a a0.length c),(6,.slice a a0.length c),(7,vI (a0.length : Int)),(8,vI (b : Int)),(9,.bool (decide ((b : Int) < (a0.length : Int))))]) [] ?_
  intro _
  refine GS.seq ?_
  refine GS.cond (t := decide ((b : Int) < (a0.length : Int))) rfl rfl (fun _ => ?_) (fun p => absb (drop_dec h) p)
  refine GS.skip ?_
  refine GS.seq ?_
  refine GS.block ?_
  refine GS.seq ?_
  refine GS.tgM (fun _ => [(0,.slice a a0.length c),(3,vI (b : Int)),(4,vI g),(6,.slice a a0.length c),(7,vI (a0.length : Int)),(8,vI (b : Int))]) [(1,{ act := .idx 1 b }),(2,{ act := .load 1 b 0 [vI g] })] (fun _ => [a = a,a0.length = (List.map rI a0).length,((b : Int) : Int) = (b : Int),b < a0.length,blk a = blk a,offs a + b * 1 = offs a + (b * 1 + 0),(List.map rI a0)[b]? = some [vI g]]) (fun _ => ⟨rfl,mlen rI a0,rfl,(drop_lt h),rfl,rfl,map_drop rI h,trivial⟩) ?_
  intro _
  refine GS.seq ?_
  refine GS.tzM (fun _ => [(0,.slice a a0.length c),(3,vI (b : Int)),(4,vI g),(5,vI 0),(6,.slice a a0.length c),(7,vI (a0.length : Int)),(8,vI (b : Int))]) [] ?_
  intro _
  refine GS.block ?_
  refine GS.loop ?_
  refine grd_elim hm (fun q hm => ?_)
  refine GS.rekey (env' := [(0,.slice a a0.length c),(3,vI (b : Int)),(4,vI g),(5,vI 0),(6,.slice a a0.length c),(7,vI (a0.length : Int)),(8,vI (b : Int))]) (mem' := [(1,r3 a a0)]) [0,3,4,5,6,7,8] [(1,1)] (by kernel_rfl) (by kernel_rfl) rfl ?_
  refine loopC_elim hm (fun st86 fn87 hst88 hfn89 hm => ?_)
  refine GS.loopInv (ι := Nat × Nat) (I := fun ⟨f,d⟩ => (((b : Int)) - (d : Int) : Int).toNat = f ∧ loopC st86 fn87 f d () = some y) (μ := fun ⟨f,d⟩ => f) (E := fun ⟨f,d⟩ => [(0,.slice a a0.length c),(3,vI (b : Int)),(4,vI g),(5,vI (d : Int)),(6,.slice a a0.length c),(7,vI (a0.length : Int)),(8,vI (b : Int))]) (M := fun ⟨f,d⟩ => [(1,r3 a a0)]) ?_ ⟨(Int.toNat ((b : Int) - (0 : Int))),0⟩ ⟨rfl,hm⟩
  rintro ⟨f,d⟩ ⟨i,hm⟩ l
  cases f with
  | zero =>
   replace hm := (hfn89 _ _).symm.trans hm
   try dsimp only at hm
   refine GS.seq ?_
   refine GS.seq ?_
   refine GS.tzM (fun _ => [(0,.slice a a0.length c),(3,vI (b : Int)),(4,vI g),(5,vI (d : Int)),(6,.slice a a0.length c),(7,vI (a0.length : Int)),(8,vI (b : Int)),(15,.bool (decide ((d : Int) < (b : Int))))]) [] ?_
   intro _
   refine GS.cond (t := decide ((d : Int) < (b : Int))) rfl rfl (fun r => absb r (cnt0 i)) (fun _ => ?_)
   refine GS.exit rfl ?_
   refine GS.inBlock ?_
   refine GS.tgM (fun _ => [(0,.slice a a0.length c),(6,.slice a a0.length c),(7,vI (a0.length : Int)),(8,vI ((b + 1 : Nat) : Int))]) [(0,{ sp := some (vI ((b + 1 : Nat) : Int)) })] (fun _ => [((vI (IntKind.i64.wrap ((b : Int) + 1))) : Value) = vI ((b + 1 : Nat) : Int)]) (fun _ => ⟨natw (drop_lt h) n,trivial⟩) ?_
   intro _
   refine GS.inLoop ?_
   refine GS.rekey (env' := [(0,.slice a a0.length c),(6,.slice a a0.length c),(7,vI (a0.length : Int)),(8,vI ((b + 1 : Nat) : Int))]) (mem' := [(1,r3 a a0)]) [0,6,7,8] [(1,1)] (by kernel_rfl) (by kernel_rfl) rfl ?_
   exact k ⟨e,b + 1⟩ ⟨drop_next h,hm⟩ (Nat.lt_succ_self _)
  | succ f =>
   replace hm := (hst88 _ _ _).symm.trans hm
   try dsimp only at hm
   refine GS.seq ?_
   refine GS.seq ?_
   refine GS.tzM (fun _ => [(0,.slice a a0.length c),(3,vI (b : Int)),(4,vI g),(5,vI (d : Int)),(6,.slice a a0.length c),(7,vI (a0.length : Int)),(8,vI (b : Int)),(15,.bool (decide ((d : Int) < (b : Int))))]) [] ?_
   intro _
   refine GS.cond (t := decide ((d : Int) < (b : Int))) rfl rfl (fun _ => ?_) (fun s => absb (cnt1 i) s)
   refine GS.skip ?_
   refine GS.seq ?_
   refine GS.block ?_
   refine GS.seq ?_
   refine grd_elim hm (fun m hm => ?_)
   refine GS.tgM (fun _ => [(0,.slice a a0.length c),(3,vI (b : Int)),(4,vI g),(5,vI (d : Int)),(6,.slice a a0.length c),(7,vI (a0.length : Int)),(8,vI (b : Int)),(23,.bool ((a0.getD d 0) == g))]) [(2,{ act := .idx 1 d }),(3,{ act := .load 1 d 0 [vI (a0.getD d 0)] })] (fun _ => [a = a,a0.length = (List.map rI a0).length,((d : Int) : Int) = (d : Int),d < a0.length,blk a = blk a,offs a + d * 1 = offs a + (d * 1 + 0),(List.map rI a0)[d]? = some [vI (a0.getD d 0)]]) (fun _ => ⟨rfl,mlen rI a0,rfl,m,rfl,rfl,map_at rI 0 m,trivial⟩) ?_
   intro _
   refine GS.cond (t := (a0.getD d 0) == g) rfl rfl (fun j => ?_) (fun j => ?_)
   ·replace hm := br_t j hm
    refine GS.seq ?_
    refine GS.tz (fun _ => [(2,.bool true)]) (fun _ => []) [] ?_
    intro _
    have hy := Option.some.inj hm
    subst hy
    refine GS.ret (fn := Try.f4) [0] [.bool true] [] rfl Try.func4 (by kernel_rfl) trivial (fun w' hs => ?_)
    exact ⟨(),rfl,hs.turnedG (ks := []) rfl rfl⟩
   ·replace hm := br_f j hm
    refine GS.skip ?_
    refine GS.inBlock ?_
    refine GS.tgM (fun _ => [(0,.slice a a0.length c),(3,vI (b : Int)),(4,vI g),(5,vI ((d + 1 : Nat) : Int)),(6,.slice a a0.length c),(7,vI (a0.length : Int)),(8,vI (b : Int))]) [(1,{ sp := some (vI ((d + 1 : Nat) : Int)) })] (fun _ => [((vI (IntKind.i64.wrap ((d : Int) + 1))) : Value) = vI ((d + 1 : Nat) : Int)]) (fun _ => ⟨natwB (cnt1 i) q,trivial⟩) ?_
    intro _
    refine GS.inLoop ?_
    refine GS.rekey (env' := [(0,.slice a a0.length c),(3,vI (b : Int)),(4,vI g),(5,vI ((d + 1 : Nat) : Int)),(6,.slice a a0.length c),(7,vI (a0.length : Int)),(8,vI (b : Int))]) (mem' := [(1,r3 a a0)]) [0,3,4,5,6,7,8] [(1,1)] (by kernel_rfl) (by kernel_rfl) rfl ?_
    exact l ⟨f,d + 1⟩ ⟨cntN i,hm⟩ (Nat.lt_succ_self _)

theorem w_slices_Index___int_int_ (F : Nat) (a : Option Addr) (b : Nat) {y : Unit} (hm : m_slices_Index___int_int_ F = some y) : CallG Try.prog 14 #[.slice a 2 b,vI 0] (X := Unit) (fun (_ : Unit) => vI 0) [] [.rd a 1 [[vI 0],[vI 1]]] (fun (_ : Unit) => []) := by
 intro w hg
 rw [m_slices_Index___int_int_] at hm
 refine GS.start (S := mayT [] [.rd a 1 [[vI 0],[vI 1]]]) (mem := [(1,.rd a 1 [[vI 0],[vI 1]])]) Try.func14 rfl Try.ntmps14 (Nat.le_of_ble_eq_true rfl) (hg.start rfl) ?_
 refine GS.conv (env' := [(0,.slice a 2 b),(1,vI 0)]) rfl rfl ?_
 refine GS.seq ?_
 refine GS.tzM (fun _ => [(0,.slice a 2 b),(1,vI 0)]) [] ?_
 intro _
 refine GS.seq ?_
 refine GS.seq ?_
 refine GS.tzM (fun _ => [(0,.slice a 2 b),(1,vI 0),(7,vI 2),(8,vI 0)]) [] ?_
 intro _
 refine GS.block ?_
 refine GS.loop ?_
 refine GS.seq ?_
 refine GS.tzM (fun _ => [(0,.slice a 2 b),(1,vI 0),(7,vI 2),(8,vI 0),(9,.bool true)]) [] ?_
 intro _
 refine GS.seq ?_
 refine GS.cond (t := true) rfl rfl (fun _ => ?_) (fun hf => by cases hf)
 refine GS.skip ?_
 refine GS.seq ?_
 refine GS.block ?_
 refine GS.seq ?_
 refine GS.tzM (fun _ => [(0,.slice a 2 b),(1,vI 0),(5,vI 0),(7,vI 2),(8,vI 0)]) [] ?_
 intro _
 refine GS.seq ?_
 refine GS.tgM (fun _ => [(0,.slice a 2 b),(1,vI 0),(5,vI 0),(7,vI 2),(8,vI 0),(16,.bool true)]) [(3,{ act := .idx 1 0 }),(4,{ act := .load 1 0 0 [vI 0] })] (fun _ => [a = a,2 = ([[vI 0],[vI 1]] : List (List Value)).length,(0 : Int) = (0 : Int),0 < 2,blk a = blk a,offs a + 0 * 1 = offs a + (0 * 1 + 0),([[vI 0],[vI 1]] : List (List Value))[0]? = some [vI 0]]) (fun _ => ⟨rfl,rfl,rfl,(Nat.le_of_ble_eq_true rfl),rfl,rfl,rfl,trivial⟩) ?_
 intro _
 refine GS.cond (t := true) rfl rfl (fun _ => ?_) (fun hf => by cases hf)
 refine GS.seq ?_
 refine GS.tz (fun _ => [(4,vI 0)]) (fun _ => []) [] ?_
 intro _
 have hy := Option.some.inj hm
 subst hy
 refine GS.ret (fn := Try.f14) [0] [vI 0] [] rfl Try.func14 (by kernel_rfl) trivial (fun w' hs => ?_)
 exact ⟨(),rfl,hs.turnedG (ks := []) rfl rfl⟩

theorem w_slices_Contains___int_int_ (F : Nat) (a : Option Addr) (b : Nat) {y : Unit} (hm : m_slices_Contains___int_int_ F = some y) : CallG Try.prog 9 #[.slice a 2 b,vI 0] (X := Unit) (fun (_ : Unit) => .bool true) [] [.rd a 1 [[vI 0],[vI 1]]] (fun (_ : Unit) => []) := by
 intro w hg
 rw [m_slices_Contains___int_int_] at hm
 refine GS.start (S := mayT [] [.rd a 1 [[vI 0],[vI 1]]]) (mem := [(1,.rd a 1 [[vI 0],[vI 1]])]) Try.func9 rfl Try.ntmps9 (Nat.le_of_ble_eq_true rfl) (hg.start rfl) ?_
 refine GS.conv (env' := [(0,.slice a 2 b),(1,vI 0)]) rfl rfl ?_
 refine GS.seq ?_
 refine GS.tzM (fun _ => [(0,.slice a 2 b),(1,vI 0)]) [] ?_
 intro _
 refine GS.seq ?_
 refine bnd_elim hm (fun y3 e4 hm => ?_)
 refine GS.tg (fun _ => [(4,.bool true)]) (fun _ => []) [(2,{ act := .call [1] (vI 0) })] (fun _ => [CallOK Try.prog 14 #[.slice a 2 b,vI 0] (vI 0) [some (.rd a 1 [[vI 0],[vI 1]])]]) (fun _ => ⟨(by have h1 := w_slices_Index___int_int_ F a b e4; exact h1.ok ⟨(.inl ⟨.rd a 1 [[vI 0],[vI 1]],.head _,Cov.refl _⟩),trivial⟩),trivial⟩) ?_
 intro _
 have hy := Option.some.inj hm
 subst hy
 refine GS.ret (fn := Try.f9) [0] [.bool true] [] rfl Try.func9 (by kernel_rfl) trivial (fun w' hs => ?_)
 exact ⟨(),rfl,hs.turnedG (ks := []) rfl rfl⟩

theorem w_pglog_below (F : Nat) {y : Unit} (hm : m_pglog_below F = some y) : CallG Try.prog 15 #[.agg #[vI 0,vI 0]] (X := Unit) (fun (_ : Unit) => .bool false) [] [] (fun (_ : Unit) => []) := by
 intro w hg
 rw [m_pglog_below] at hm
 refine GS.start (S := mayT [] []) (mem := []) Try.func15 rfl Try.ntmps15 (Nat.le_of_ble_eq_true rfl) (hg.start rfl) ?_
 refine GS.conv (env' := [(0,.agg #[vI 0,vI 0])]) rfl rfl ?_
 refine GS.seq ?_
 refine GS.tz (fun a => [(1,pA ((a 0).x) 0)]) (fun a => [(1,.cells ((a 0).x) 26 [vI 0,vI 0])]) [(0,{ act := .new .var,key := some 1 })] ?_
 intro a
 refine GS.seq ?_
 refine GS.tg (fun _ => [(2,.bool false)]) (fun _ => []) [(1,{ act := .load 1 0 0 [] }),(5,{ act := .load 1 0 0 [] })] (fun _ => [(a 0).x = (a 0).x,(a 0).x = (a 0).x]) (fun _ => ⟨rfl,rfl,trivial⟩) ?_
 intro _
 have hy := Option.some.inj hm
 subst hy
 refine GS.ret (fn := Try.f15) [0] [.bool false] [] rfl Try.func15 (by kernel_rfl) trivial (fun w' hs => ?_)
 exact ⟨(),rfl,hs.turnedG (ks := []) rfl rfl⟩

theorem w_pglog_rising_api_Item_string_ (F : Nat) {y : Unit} (hm : m_pglog_rising_api_Item_string_ F = some y) : CallG Try.prog 17 #[.slice none 0 0,.func (.func 18) #[] #[]] (X := Unit) (fun (_ : Unit) => .bool true) [] [] (fun (_ : Unit) => []) := by
 intro w hg
 rw [m_pglog_rising_api_Item_string_] at hm
 refine GS.start (S := mayT [] []) (mem := []) Try.func17 rfl Try.ntmps17 (Nat.le_of_ble_eq_true rfl) (hg.start rfl) ?_
 refine GS.conv (env' := [(0,.slice none 0 0),(1,.func (.func 18) #[] #[])]) rfl rfl ?_
 refine GS.seq ?_
 refine GS.tzM (fun _ => [(0,.slice none 0 0),(1,.func (.func 18) #[] #[])]) [] ?_
 intro _
 refine GS.seq ?_
 refine GS.seq ?_
 refine GS.tzM (fun _ => [(0,.slice none 0 0),(1,.func (.func 18) #[] #[]),(5,vI 1)]) [] ?_
 intro _
 refine GS.block ?_
 refine GS.loop ?_
 refine GS.seq ?_
 refine GS.seq ?_
 refine GS.tzM (fun _ => [(0,.slice none 0 0),(1,.func (.func 18) #[] #[]),(5,vI 1),(9,.bool false)]) [] ?_
 intro _
 refine GS.cond (t := false) rfl rfl (fun hf => by cases hf) (fun _ => ?_)
 refine GS.exit rfl ?_
 refine GS.seq ?_
 refine GS.tzM (fun _ => [(4,.bool true)]) [] ?_
 intro _
 have hy := Option.some.inj hm
 subst hy
 refine GS.ret (fn := Try.f17) [0] [.bool true] [] rfl Try.func17 (by kernel_rfl) trivial (fun w' hs => ?_)
 exact ⟨(),rfl,hs.turnedG (ks := []) rfl rfl⟩

theorem w_pglog_rising_api_Last_int_ (F : Nat) {y : Unit} (hm : m_pglog_rising_api_Last_int_ F = some y) : CallG Try.prog 19 #[.slice none 0 0,.func (.func 20) #[] #[]] (X := Unit) (fun (_ : Unit) => .bool true) [] [] (fun (_ : Unit) => []) := by
 intro w hg
 rw [m_pglog_rising_api_Last_int_] at hm
 refine GS.start (S := mayT [] []) (mem := []) Try.func19 rfl Try.ntmps19 (Nat.le_of_ble_eq_true rfl) (hg.start rfl) ?_
 refine GS.conv (env' := [(0,.slice none 0 0),(1,.func (.func 20) #[] #[])]) rfl rfl ?_
 refine GS.seq ?_
 refine GS.tzM (fun _ => [(0,.slice none 0 0),(1,.func (.func 20) #[] #[])]) [] ?_
 intro _
 refine GS.seq ?_
 refine GS.seq ?_
 refine GS.tzM (fun _ => [(0,.slice none 0 0),(1,.func (.func 20) #[] #[]),(5,vI 1)]) [] ?_
 intro _
 refine GS.block ?_
 refine GS.loop ?_
 refine GS.seq ?_
 refine GS.seq ?_
 refine GS.tzM (fun _ => [(0,.slice none 0 0),(1,.func (.func 20) #[] #[]),(5,vI 1),(9,.bool false)]) [] ?_
 intro _
 refine GS.cond (t := false) rfl rfl (fun hf => by cases hf) (fun _ => ?_)
 refine GS.exit rfl ?_
 refine GS.seq ?_
 refine GS.tzM (fun _ => [(4,.bool true)]) [] ?_
 intro _
 have hy := Option.some.inj hm
 subst hy
 refine GS.ret (fn := Try.f19) [0] [.bool true] [] rfl Try.func19 (by kernel_rfl) trivial (fun w' hs => ?_)
 exact ⟨(),rfl,hs.turnedG (ks := []) rfl rfl⟩

theorem w_pglog_Check (F : Nat) {y : Unit} (hm : m_pglog_Check F = some y) : CallG Try.prog 10 #[.agg ((kc1)).toArray] (X := Unit) (fun (_ : Unit) => vI 0) [] [] (fun (_ : Unit) => []) := by
 intro w hg
 rw [m_pglog_Check] at hm
 refine GS.start (S := mayT [] []) (mem := []) Try.func10 rfl Try.ntmps10 (Nat.le_of_ble_eq_true rfl) (hg.start rfl) ?_
 refine GS.conv (env' := [(0,.agg ((kc1)).toArray)]) rfl rfl ?_
 refine GS.seq ?_
 refine GS.tz (fun a => [(1,pA ((a 0).x) 0)]) (fun a => [(1,.cells ((a 0).x) 31 (kc1))]) [(0,{ act := .new .var,key := some 1 })] ?_
 intro a
 refine GS.seq ?_
 refine GS.seq ?_
 refine bnd_elim hm (fun y3 e4 hm => ?_)
 refine GS.tgM (fun _ => [(1,pA ((a 0).x) 0),(23,.bool false)]) [(1,{ act := .load 1 0 0 [] }),(5,{ act := .load 1 0 0 [] }),(6,{ act := .call [] (.bool false) }),(10,{ act := .load 1 0 0 [] })] (fun _ => [(a 0).x = (a 0).x,(a 0).x = (a 0).x,CallOK Try.prog 15 #[.agg #[vI 0,vI 0]] (.bool false) [],(a 0).x = (a 0).x]) (fun _ => ⟨rfl,rfl,(by have h1 := w_pglog_below F  e4; exact h1.ok trivial),rfl,trivial⟩) ?_
 intro _
 refine GS.cond (t := false) rfl rfl (fun hf => by cases hf) (fun _ => ?_)
 refine GS.skip ?_
 refine GS.seq ?_
 refine GS.tg (fun b => [(1,pA ((a 0).x) 0),(3,pA ((b 2).x) 0)]) (fun b => [(1,.cells ((a 0).x) 31 (kc1)),(2,.cells ((b 2).x) 26 [vI 0,vI 0])]) [(1,{ act := .load 1 0 0 [] }),(2,{ act := .new .var,key := some 2 }),(3,{ act := .store 0 0 [],key := some 2 })] (fun b => [(a 0).x = (a 0).x,(b 2).x = (b 2).x,oC (.agg #[vI 0,vI 0])]) (fun b => ⟨rfl,rfl,rfl,trivial⟩) ?_
 intro b
 refine GS.seq ?_
 refine GS.seq ?_
 refine GS.tgM (fun _ => [(1,pA ((a 0).x) 0),(3,pA ((b 2).x) 0),(27,.slice none 0 0),(28,vI 0),(29,vI 0)]) [(1,{ act := .load 1 0 0 [] })] (fun _ => [(a 0).x = (a 0).x]) (fun _ => ⟨rfl,trivial⟩) ?_
 intro _
 refine GS.block ?_
 refine GS.loop ?_
 refine GS.seq ?_
 refine GS.tzM (fun _ => [(1,pA ((a 0).x) 0),(3,pA ((b 2).x) 0),(27,.slice none 0 0),(28,vI 0),(29,vI 0),(30,.bool false)]) [] ?_
 intro _
 refine GS.seq ?_
 refine GS.cond (t := false) rfl rfl (fun hf => by cases hf) (fun _ => ?_)
 refine GS.exit rfl ?_
 refine GS.seq ?_
 refine GS.seq ?_
 refine bnd_elim hm (fun y9 c hm => ?_)
 refine bnd_elim hm (fun e d hm => ?_)
 refine GS.tgM (fun _ => [(1,pA ((a 0).x) 0),(3,pA ((b 2).x) 0),(55,.bool false)]) [(1,{ act := .load 1 0 0 [] }),(2,{ act := .call [] (.bool true) }),(6,{ act := .load 1 0 0 [] }),(7,{ act := .call [] (.bool true) })] (fun _ => [(a 0).x = (a 0).x,CallOK Try.prog 17 #[.slice none 0 0,.func (.func 18) #[] #[]] (.bool true) [],(a 0).x = (a 0).x,CallOK Try.prog 19 #[.slice none 0 0,.func (.func 20) #[] #[]] (.bool true) []]) (fun _ => ⟨rfl,(by have h1 := w_pglog_rising_api_Item_string_ F  c; exact h1.ok trivial),rfl,(by have h1 := w_pglog_rising_api_Last_int_ F  d; exact h1.ok trivial),trivial⟩) ?_
 intro _
 refine GS.cond (t := false) rfl rfl (fun hf => by cases hf) (fun _ => ?_)
 refine GS.skip ?_
 refine GS.seq ?_
 refine GS.seq ?_
 refine GS.tgM (fun _ => [(1,pA ((a 0).x) 0),(3,pA ((b 2).x) 0),(57,.slice none 0 0),(58,vI 0),(59,vI 0)]) [(1,{ act := .load 1 0 0 [] })] (fun _ => [(a 0).x = (a 0).x]) (fun _ => ⟨rfl,trivial⟩) ?_
 intro _
 refine GS.block ?_
 refine GS.loop ?_
 refine GS.seq ?_
 refine GS.tzM (fun _ => [(1,pA ((a 0).x) 0),(3,pA ((b 2).x) 0),(57,.slice none 0 0),(58,vI 0),(59,vI 0),(60,.bool false)]) [] ?_
 intro _
 refine GS.seq ?_
 refine GS.cond (t := false) rfl rfl (fun hf => by cases hf) (fun _ => ?_)
 refine GS.exit rfl ?_
 refine GS.seq ?_
 refine GS.seq ?_
 refine GS.tg (fun _ => [(3,pA ((b 2).x) 0),(87,.slice none 0 0),(88,vI 0),(89,vI 0)]) (fun _ => [(2,.cells ((b 2).x) 26 [vI 0,vI 0])]) [(1,{ act := .load 1 0 0 [] })] (fun _ => [(a 0).x = (a 0).x]) (fun _ => ⟨rfl,trivial⟩) ?_
 intro _
 refine GS.block ?_
 refine GS.loop ?_
 refine GS.seq ?_
 refine GS.tzM (fun _ => [(3,pA ((b 2).x) 0),(87,.slice none 0 0),(88,vI 0),(89,vI 0),(90,.bool false)]) [] ?_
 intro _
 refine GS.seq ?_
 refine GS.cond (t := false) rfl rfl (fun hf => by cases hf) (fun _ => ?_)
 refine GS.exit rfl ?_
 refine GS.seq ?_
 refine GS.tz (fun _ => [(2,vI 0)]) (fun _ => []) [] ?_
 intro _
 have hy := Option.some.inj hm
 subst hy
 refine GS.ret (fn := Try.f10) [0] [vI 0] [] rfl Try.func10 (by kernel_rfl) trivial (fun w' hs => ?_)
 exact ⟨(),rfl,hs.turnedG (ks := []) rfl rfl⟩

theorem w_pglog_Copy (F : Nat) {y : Unit} (hm : m_pglog_Copy F = some y) : CallG Try.prog 11 #[.agg ((kc1)).toArray] (X := Option Addr × Nat × Option Addr × Nat × Option Addr × Nat) (fun ⟨x0,x1,x2,x3,x4,x5⟩ => .agg ((kc5 x0 x1 x2 x3 x4 x5)).toArray) [] [] (fun ⟨x0,x1,x2,x3,x4,x5⟩ => [.osl x0 x1 52 7 [],.osl x2 x3 80 5 [],.osl x4 x5 76 4 []]) := by
 intro w hg
 rw [m_pglog_Copy] at hm
 refine GS.start (S := mayT [] []) (mem := []) Try.func11 rfl Try.ntmps11 (Nat.le_of_ble_eq_true rfl) (hg.start rfl) ?_
 refine GS.conv (env' := [(0,.agg ((kc1)).toArray)]) rfl rfl ?_
 refine GS.seq ?_
 refine GS.tz (fun b => [(1,pA ((b 0).x) 0),(2,pA ((b 1).x) 0)]) (fun b => [(1,.cells ((b 0).x) 31 (kc1)),(2,.cells ((b 1).x) 31 (kc2))]) [(0,{ act := .new .var,key := some 1 }),(1,{ act := .new .var,key := some 2 })] ?_
 intro b
 refine GS.seq ?_
 refine GS.tg (fun a => [(1,pA ((b 0).x) 0),(2,pA ((b 1).x) 0)]) (fun a => [(1,.cells ((b 0).x) 31 (kc3 ((a 2).ob) ((a 2).cap))),(2,.cells ((b 1).x) 31 (kc2)),(3,.osl ((a 2).ob) ((a 2).cap) 52 7 ([] : List (List Value)))]) [(1,{ act := .load 1 0 0 [] }),(2,{ act := .app none,key := some 3,spf := some (fun f => .slice (f.ob) 0 (f.cap)) }),(4,{ act := .store 0 0 [],key := some 1 })] (fun a => [(b 0).x = (b 0).x,(none : Option Addr) = none,0 = 0,0 = 0,0 = 0,([] : List (List Value)).length * (64 + 1) ≤ 70368744177664,((.slice ((a 2).ob) (0 + ([] : List (List Value)).length) ((a 2).cap)) : Value) = .slice ((a 2).ob) 0 ((a 2).cap),(b 0).x = (b 0).x,oC (.slice ((a 2).ob) 0 ((a 2).cap))]) (fun a => ⟨rfl,rfl,rfl,rfl,rfl,(show 0 * (64 + 1) ≤ 70368744177664 by decide),rfl,rfl,rfl,trivial⟩) ?_
 intro a
 refine GS.conv (mem' := [(1,.cells ((b 0).x) 31 (kc3 ((a 2).ob) ((a 2).cap))),(2,.cells ((b 1).x) 31 (kc2)),(3,.osl ((a 2).ob) ((a 2).cap) 52 7 [])]) rfl (congrArg (fun rr : List (List Value) => ([(1,.cells ((b 0).x) 31 (kc3 ((a 2).ob) ((a 2).cap))),(2,.cells ((b 1).x) 31 (kc2)),(3,.osl ((a 2).ob) ((a 2).cap) 52 7 rr)] : List (Nat × Ent))) (show ([] : List (List Value)) = ([] : List (List Value)) from rfl)) ?_
 refine GS.seq ?_
 refine GS.tg (fun c => [(1,pA ((b 0).x) 0),(2,pA ((b 1).x) 0)]) (fun c => [(1,.cells ((b 0).x) 31 (kc4 ((a 2).ob) ((a 2).cap) ((c 2).ob) ((c 2).cap))),(2,.cells ((b 1).x) 31 (kc2)),(3,.osl ((a 2).ob) ((a 2).cap) 52 7 []),(4,.osl ((c 2).ob) ((c 2).cap) 80 5 ([] : List (List Value)))]) [(1,{ act := .load 1 0 0 [] }),(2,{ act := .app none,key := some 4,spf := some (fun f => .slice (f.ob) 0 (f.cap)) }),(4,{ act := .store 0 0 [],key := some 1 })] (fun c => [(b 0).x = (b 0).x,(none : Option Addr) = none,0 = 0,0 = 0,0 = 0,([] : List (List Value)).length * (40 + 1) ≤ 70368744177664,((.slice ((c 2).ob) (0 + ([] : List (List Value)).length) ((c 2).cap)) : Value) = .slice ((c 2).ob) 0 ((c 2).cap),(b 0).x = (b 0).x,oC (.slice ((c 2).ob) 0 ((c 2).cap))]) (fun c => ⟨rfl,rfl,rfl,rfl,rfl,(show 0 * (40 + 1) ≤ 70368744177664 by decide),rfl,rfl,rfl,trivial⟩) ?_
 intro c
 refine GS.conv (mem' := [(1,.cells ((b 0).x) 31 (kc4 ((a 2).ob) ((a 2).cap) ((c 2).ob) ((c 2).cap))),(2,.cells ((b 1).x) 31 (kc2)),(3,.osl ((a 2).ob) ((a 2).cap) 52 7 []),(4,.osl ((c 2).ob) ((c 2).cap) 80 5 [])]) rfl (congrArg (fun rr : List (List Value) => ([(1,.cells ((b 0).x) 31 (kc4 ((a 2).ob) ((a 2).cap) ((c 2).ob) ((c 2).cap))),(2,.cells ((b 1).x) 31 (kc2)),(3,.osl ((a 2).ob) ((a 2).cap) 52 7 []),(4,.osl ((c 2).ob) ((c 2).cap) 80 5 rr)] : List (Nat × Ent))) (show ([] : List (List Value)) = ([] : List (List Value)) from rfl)) ?_
 refine GS.seq ?_
 refine GS.tg (fun d => [(1,pA ((b 0).x) 0),(2,pA ((b 1).x) 0)]) (fun d => [(1,.cells ((b 0).x) 31 (kc5 ((a 2).ob) ((a 2).cap) ((c 2).ob) ((c 2).cap) ((d 2).ob) ((d 2).cap))),(2,.cells ((b 1).x) 31 (kc2)),(3,.osl ((a 2).ob) ((a 2).cap) 52 7 []),(4,.osl ((c 2).ob) ((c 2).cap) 80 5 []),(5,.osl ((d 2).ob) ((d 2).cap) 76 4 ([] : List (List Value)))]) [(1,{ act := .load 1 0 0 [] }),(2,{ act := .app none,key := some 5,spf := some (fun f => .slice (f.ob) 0 (f.cap)) }),(4,{ act := .store 0 0 [],key := some 1 })] (fun d => [(b 0).x = (b 0).x,(none : Option Addr) = none,0 = 0,0 = 0,0 = 0,([] : List (List Value)).length * (40 + 1) ≤ 70368744177664,((.slice ((d 2).ob) (0 + ([] : List (List Value)).length) ((d 2).cap)) : Value) = .slice ((d 2).ob) 0 ((d 2).cap),(b 0).x = (b 0).x,oC (.slice ((d 2).ob) 0 ((d 2).cap))]) (fun d => ⟨rfl,rfl,rfl,rfl,rfl,(show 0 * (40 + 1) ≤ 70368744177664 by decide),rfl,rfl,rfl,trivial⟩) ?_
 intro d
 refine GS.conv (mem' := [(1,.cells ((b 0).x) 31 (kc5 ((a 2).ob) ((a 2).cap) ((c 2).ob) ((c 2).cap) ((d 2).ob) ((d 2).cap))),(2,.cells ((b 1).x) 31 (kc2)),(3,.osl ((a 2).ob) ((a 2).cap) 52 7 []),(4,.osl ((c 2).ob) ((c 2).cap) 80 5 []),(5,.osl ((d 2).ob) ((d 2).cap) 76 4 [])]) rfl (congrArg (fun rr : List (List Value) => ([(1,.cells ((b 0).x) 31 (kc5 ((a 2).ob) ((a 2).cap) ((c 2).ob) ((c 2).cap) ((d 2).ob) ((d 2).cap))),(2,.cells ((b 1).x) 31 (kc2)),(3,.osl ((a 2).ob) ((a 2).cap) 52 7 []),(4,.osl ((c 2).ob) ((c 2).cap) 80 5 []),(5,.osl ((d 2).ob) ((d 2).cap) 76 4 rr)] : List (Nat × Ent))) (show ([] : List (List Value)) = ([] : List (List Value)) from rfl)) ?_
 refine GS.seq ?_
 refine GS.tg (fun _ => [(2,pA ((b 1).x) 0)]) (fun _ => [(2,.cells ((b 1).x) 31 (kc5 ((a 2).ob) ((a 2).cap) ((c 2).ob) ((c 2).cap) ((d 2).ob) ((d 2).cap))),(3,.osl ((a 2).ob) ((a 2).cap) 52 7 []),(4,.osl ((c 2).ob) ((c 2).cap) 80 5 []),(5,.osl ((d 2).ob) ((d 2).cap) 76 4 [])]) [(0,{ act := .load 1 0 0 [] }),(1,{ act := .store 0 0 [],key := some 2 })] (fun _ => [(b 0).x = (b 0).x,(b 1).x = (b 1).x,oC (.agg ((kc5 ((a 2).ob) ((a 2).cap) ((c 2).ob) ((c 2).cap) ((d 2).ob) ((d 2).cap))).toArray)]) (fun _ => ⟨rfl,rfl,rfl,trivial⟩) ?_
 intro _
 have hy := Option.some.inj hm
 subst hy
 refine GS.ret (fn := Try.f11) [2] [.agg ((kc5 ((a 2).ob) ((a 2).cap) ((c 2).ob) ((c 2).cap) ((d 2).ob) ((d 2).cap))).toArray] [(b 1).x = (b 1).x] rfl Try.func11 (by kernel_rfl) ⟨rfl,trivial⟩ (fun w' hs => ?_)
 exact ⟨⟨(a 2).ob,(a 2).cap,(c 2).ob,(c 2).cap,(d 2).ob,(d 2).cap⟩,rfl,hs.turnedG (ks := [3,4,5]) rfl rfl⟩

theorem w_primary_New (F : Nat) (b : Option Addr) (e : Nat) {y : Unit} (hm : m_primary_New F = some y) : CallG Try.prog 6 #[.agg #[vI 1,vI 0],vI 3,vI 0,vI 9,.slice b 2 e,.agg ((kc1)).toArray] (X := Nat × Option Addr × Nat × Option Addr × Nat × Option Addr × Nat × Option Addr × Nat) (fun ⟨x0,x1,x2,x3,x4,x5,x6,x7,x8⟩ => .tuple #[pA x0 0,vI 0]) [] [.rd b 1 [[vI 0],[vI 1]]] (fun ⟨x0,x1,x2,x3,x4,x5,x6,x7,x8⟩ => [.cells x0 69 (kc6 x1 x2 x3 x4 x5 x6 x7 x8),.osl x1 x2 3 1 [[vI 1]],.osl x3 x4 52 7 [],.osl x5 x6 80 5 [],.osl x7 x8 76 4 []]) := by
 intro w hg
 rw [m_primary_New] at hm
 refine GS.start (S := mayT [] [.rd b 1 [[vI 0],[vI 1]]]) (mem := [(1,.rd b 1 [[vI 0],[vI 1]])]) Try.func6 rfl Try.ntmps6 (Nat.le_of_ble_eq_true rfl) (hg.start rfl) ?_
 refine GS.conv (env' := [(0,.agg #[vI 1,vI 0]),(1,vI 3),(2,vI 0),(3,vI 9),(4,.slice b 2 e),(5,.agg ((kc1)).toArray)]) rfl rfl ?_
 refine GS.seq ?_
 refine GS.tz (fun d => [(1,vI 3),(2,vI 0),(3,vI 9),(4,.slice b 2 e),(6,pA ((d 0).x) 0),(11,pA ((d 1).x) 0)]) (fun d => [(1,.rd b 1 [[vI 0],[vI 1]]),(2,.cells ((d 0).x) 23 [vI 1,vI 0]),(3,.cells ((d 1).x) 31 (kc1))]) [(0,{ act := .new .var,key := some 2 }),(1,{ act := .new .var,key := some 3 })] ?_
 intro d
 refine GS.seq ?_
 refine GS.seq ?_
 refine bnd_elim hm (fun y3 e4 hm => ?_)
 refine bnd_elim hm (fun y5 e6 hm => ?_)
 refine GS.tgM (fun _ => [(1,vI 3),(2,vI 0),(3,vI 9),(4,.slice b 2 e),(6,pA ((d 0).x) 0),(11,pA ((d 1).x) 0),(25,.bool false)]) [(2,{ act := .call [1] (.bool true) }),(5,{ act := .load 3 0 0 [] }),(6,{ act := .call [] (vI 0) })] (fun _ => [CallOK Try.prog 9 #[.slice b 2 e,vI 0] (.bool true) [some (.rd b 1 [[vI 0],[vI 1]])],(d 1).x = (d 1).x,CallOK Try.prog 10 #[.agg ((kc1)).toArray] (vI 0) []]) (fun _ => ⟨(by have h1 := w_slices_Contains___int_int_ F b e e4; exact h1.ok ⟨(.inl ⟨.rd b 1 [[vI 0],[vI 1]],.head _,Cov.refl _⟩),trivial⟩),rfl,(by have h1 := w_pglog_Check F  e6; exact h1.ok trivial),trivial⟩) ?_
 intro _
 refine GS.cond (t := false) rfl rfl (fun hf => by cases hf) (fun _ => ?_)
 refine GS.skip ?_
 refine GS.seq ?_
 refine GS.tzM (fun _ => [(1,vI 3),(2,vI 0),(3,vI 9),(4,.slice b 2 e),(6,pA ((d 0).x) 0),(11,pA ((d 1).x) 0),(14,.slice none 0 0)]) [] ?_
 intro _
 refine GS.seq ?_
 refine GS.seq ?_
 refine GS.tzM (fun _ => [(1,vI 3),(2,vI 0),(3,vI 9),(6,pA ((d 0).x) 0),(11,pA ((d 1).x) 0),(14,.slice none 0 0),(26,.slice b 2 e),(27,vI 2),(28,vI 0)]) [] ?_
 intro _
 refine GS.block ?_
 refine GS.loop ?_
 refine GS.seq ?_
 refine GS.tzM (fun _ => [(1,vI 3),(2,vI 0),(3,vI 9),(6,pA ((d 0).x) 0),(11,pA ((d 1).x) 0),(14,.slice none 0 0),(26,.slice b 2 e),(27,vI 2),(28,vI 0),(29,.bool true)]) [] ?_
 intro _
 refine GS.seq ?_
 refine GS.cond (t := true) rfl rfl (fun _ => ?_) (fun hf => by cases hf)
 refine GS.skip ?_
 refine GS.seq ?_
 refine GS.block ?_
 refine GS.seq ?_
 refine GS.tgM (fun _ => [(1,vI 3),(2,vI 0),(3,vI 9),(6,pA ((d 0).x) 0),(11,pA ((d 1).x) 0),(14,.slice none 0 0),(16,vI 0),(26,.slice b 2 e),(27,vI 2),(28,vI 0)]) [(0,{ act := .idx 1 0 }),(1,{ act := .load 1 0 0 [vI 0] })] (fun _ => [b = b,2 = ([[vI 0],[vI 1]] : List (List Value)).length,(0 : Int) = (0 : Int),0 < 2,blk b = blk b,offs b + 0 * 1 = offs b + (0 * 1 + 0),([[vI 0],[vI 1]] : List (List Value))[0]? = some [vI 0]]) (fun _ => ⟨rfl,rfl,rfl,(Nat.le_of_ble_eq_true rfl),rfl,rfl,rfl,trivial⟩) ?_
 intro _
 refine GS.seq ?_
 refine GS.tzM (fun _ => [(1,vI 3),(2,vI 0),(3,vI 9),(6,pA ((d 0).x) 0),(11,pA ((d 1).x) 0),(14,.slice none 0 0),(16,vI 0),(26,.slice b 2 e),(27,vI 2),(28,vI 0),(34,.bool false)]) [] ?_
 intro _
 refine GS.cond (t := false) rfl rfl (fun hf => by cases hf) (fun _ => ?_)
 refine GS.skip ?_
 refine GS.inBlock ?_
 refine GS.tzM (fun _ => [(1,vI 3),(2,vI 0),(3,vI 9),(6,pA ((d 0).x) 0),(11,pA ((d 1).x) 0),(14,.slice none 0 0),(26,.slice b 2 e),(27,vI 2),(28,vI 1)]) [] ?_
 intro _
 refine GS.inLoop ?_
 refine GS.seq ?_
 refine GS.tzM (fun _ => [(1,vI 3),(2,vI 0),(3,vI 9),(6,pA ((d 0).x) 0),(11,pA ((d 1).x) 0),(14,.slice none 0 0),(26,.slice b 2 e),(27,vI 2),(28,vI 1),(29,.bool true)]) [] ?_
 intro _
 refine GS.seq ?_
 refine GS.cond (t := true) rfl rfl (fun _ => ?_) (fun hf => by cases hf)
 refine GS.skip ?_
 refine GS.seq ?_
 refine GS.block ?_
 refine GS.seq ?_
 refine GS.tgM (fun _ => [(1,vI 3),(2,vI 0),(3,vI 9),(6,pA ((d 0).x) 0),(11,pA ((d 1).x) 0),(14,.slice none 0 0),(16,vI 1),(26,.slice b 2 e),(27,vI 2),(28,vI 1)]) [(0,{ act := .idx 1 1 }),(1,{ act := .load 1 1 0 [vI 1] })] (fun _ => [b = b,2 = ([[vI 0],[vI 1]] : List (List Value)).length,(1 : Int) = (1 : Int),1 < 2,blk b = blk b,offs b + 1 * 1 = offs b + (1 * 1 + 0),([[vI 0],[vI 1]] : List (List Value))[1]? = some [vI 1]]) (fun _ => ⟨rfl,rfl,rfl,(Nat.le_of_ble_eq_true rfl),rfl,rfl,rfl,trivial⟩) ?_
 intro _
 refine GS.seq ?_
 refine GS.tzM (fun _ => [(1,vI 3),(2,vI 0),(3,vI 9),(6,pA ((d 0).x) 0),(11,pA ((d 1).x) 0),(14,.slice none 0 0),(16,vI 1),(26,.slice b 2 e),(27,vI 2),(28,vI 1),(34,.bool true)]) [] ?_
 intro _
 refine GS.cond (t := true) rfl rfl (fun _ => ?_) (fun hf => by cases hf)
 refine GS.tg (fun c => [(1,vI 3),(2,vI 0),(3,vI 9),(6,pA ((d 0).x) 0),(11,pA ((d 1).x) 0),(14,.slice ((c 3).ob) 1 ((c 3).cap)),(26,.slice b 2 e),(27,vI 2),(28,vI 1)]) (fun c => [(1,.rd b 1 [[vI 0],[vI 1]]),(2,.cells ((d 0).x) 23 [vI 1,vI 0]),(3,.cells ((d 1).x) 31 (kc1)),(5,.osl ((c 3).ob) ((c 3).cap) 3 1 ([[vI 1]] : List (List Value)))]) [(2,{ act := .new (.row 1 1),key := some 4 }),(3,{ act := .app (some 4),key := some 5,spf := some (fun f => .slice (f.ob) 1 (f.cap)) })] (fun c => [(some (Addr.mk (c 2).x 0 none)) = (some (Addr.mk (c 2).x 0 none)),1 = ([[vI 1]] : List (List Value)).length,0 = 0,0 = 0,([[vI 1]] : List (List Value)).length * (8 + 1) ≤ 70368744177664,((.slice ((c 3).ob) (0 + ([[vI 1]] : List (List Value)).length) ((c 3).cap)) : Value) = .slice ((c 3).ob) 1 ((c 3).cap)]) (fun c => ⟨rfl,rfl,rfl,rfl,(show 1 * (8 + 1) ≤ 70368744177664 by decide),rfl,trivial⟩) ?_
 intro c
 refine GS.conv (mem' := [(1,.rd b 1 [[vI 0],[vI 1]]),(2,.cells ((d 0).x) 23 [vI 1,vI 0]),(3,.cells ((d 1).x) 31 (kc1)),(5,.osl ((c 3).ob) ((c 3).cap) 3 1 [[vI 1]])]) rfl (congrArg (fun rr : List (List Value) => ([(1,.rd b 1 [[vI 0],[vI 1]]),(2,.cells ((d 0).x) 23 [vI 1,vI 0]),(3,.cells ((d 1).x) 31 (kc1)),(5,.osl ((c 3).ob) ((c 3).cap) 3 1 rr)] : List (Nat × Ent))) (show ([[vI 1]] : List (List Value)) = ([[vI 1]] : List (List Value)) from rfl)) ?_
 refine GS.inBlock ?_
 refine GS.tzM (fun _ => [(1,vI 3),(2,vI 0),(3,vI 9),(6,pA ((d 0).x) 0),(11,pA ((d 1).x) 0),(14,.slice ((c 3).ob) 1 ((c 3).cap)),(26,.slice b 2 e),(27,vI 2),(28,vI 2)]) [] ?_
 intro _
 refine GS.inLoop ?_
 refine GS.seq ?_
 refine GS.tzM (fun _ => [(1,vI 3),(2,vI 0),(3,vI 9),(6,pA ((d 0).x) 0),(11,pA ((d 1).x) 0),(14,.slice ((c 3).ob) 1 ((c 3).cap)),(26,.slice b 2 e),(27,vI 2),(28,vI 2),(29,.bool false)]) [] ?_
 intro _
 refine GS.seq ?_
 refine GS.cond (t := false) rfl rfl (fun hf => by cases hf) (fun _ => ?_)
 refine GS.exit rfl ?_
 refine GS.seq ?_
 refine bnd_elim hm (fun h g hm => ?_)
 refine GS.region (env' := fun a => [(12,pA ((a 8).x) 0),(13,vI 0)]) (mem' := fun a => [(5,.osl ((c 3).ob) ((c 3).cap) 3 1 [[vI 1]]),(9,bag [.osl (((a 6).xs.getD 0 (none,0)).1) (((a 6).xs.getD 1 (none,0)).2) 52 7 [],.osl (((a 6).xs.getD 2 (none,0)).1) (((a 6).xs.getD 3 (none,0)).2) 80 5 [],.osl (((a 6).xs.getD 4 (none,0)).1) (((a 6).xs.getD 5 (none,0)).2) 76 4 []]),(10,.cells ((a 8).x) 69 (kc6 ((c 3).ob) ((c 3).cap) (((a 6).xs.getD 0 (none,0)).1) (((a 6).xs.getD 1 (none,0)).2) (((a 6).xs.getD 2 (none,0)).1) (((a 6).xs.getD 3 (none,0)).2) (((a 6).xs.getD 4 (none,0)).1) (((a 6).xs.getD 5 (none,0)).2)))]) (RunsTo.mkd [(0,{ act := .load 2 0 0 [] }),(5,{ act := .load 3 0 0 [] }),(6,{ act := .calln [] (fun f => .agg ((kc5 (f.xs.getD 0 (none,0)).1 (f.xs.getD 1 (none,0)).2 (f.xs.getD 2 (none,0)).1 (f.xs.getD 3 (none,0)).2 (f.xs.getD 4 (none,0)).1 (f.xs.getD 5 (none,0)).2)).toArray) (fun f => bag [.osl (f.xs.getD 0 (none,0)).1 (f.xs.getD 1 (none,0)).2 52 7 [],.osl (f.xs.getD 2 (none,0)).1 (f.xs.getD 3 (none,0)).2 80 5 [],.osl (f.xs.getD 4 (none,0)).1 (f.xs.getD 5 (none,0)).2 76 4 []]),key := some 9 }),(8,{ act := .new .var,key := some 10 })] [12,13] [5,9,10] (fun a => [(d 0).x = (d 0).x,(d 1).x = (d 1).x,CallN Try.prog 11 #[.agg ((kc1)).toArray] (fun f => .agg ((kc5 (f.xs.getD 0 (none,0)).1 (f.xs.getD 1 (none,0)).2 (f.xs.getD 2 (none,0)).1 (f.xs.getD 3 (none,0)).2 (f.xs.getD 4 (none,0)).1 (f.xs.getD 5 (none,0)).2)).toArray) (fun f => bag [.osl (f.xs.getD 0 (none,0)).1 (f.xs.getD 1 (none,0)).2 52 7 [],.osl (f.xs.getD 2 (none,0)).1 (f.xs.getD 3 (none,0)).2 80 5 [],.osl (f.xs.getD 4 (none,0)).1 (f.xs.getD 5 (none,0)).2 76 4 []]) []]) (by kernel_rfl) (by kernel_rfl) (fun a => by kernel_rfl) (fun a => ⟨rfl,rfl,(by have h1 := w_pglog_Copy F  g; exact CallG.toNB (efs := fun f => [.osl (f.xs.getD 0 (none,0)).1 (f.xs.getD 1 (none,0)).2 52 7 [],.osl (f.xs.getD 2 (none,0)).1 (f.xs.getD 3 (none,0)).2 80 5 [],.osl (f.xs.getD 4 (none,0)).1 (f.xs.getD 5 (none,0)).2 76 4 []]) h1 trivial (fun x => ⟨0,none,0,[(x.1,0),(none,x.2.1),(x.2.2.1,0),(none,x.2.2.2.1),(x.2.2.2.2.1,0),(none,x.2.2.2.2.2)],fun _ _ => (none,0)⟩) (fun _ => rfl) (fun _ => rfl) (fun _ => rfl)),trivial⟩)) ?_
 intro a
 refine GS.setMem (mem' := [(5,.osl ((c 3).ob) ((c 3).cap) 3 1 [[vI 1]]),(10,.cells ((a 8).x) 69 (kc6 ((c 3).ob) ((c 3).cap) (((a 6).xs.getD 0 (none,0)).1) (((a 6).xs.getD 1 (none,0)).2) (((a 6).xs.getD 2 (none,0)).1) (((a 6).xs.getD 3 (none,0)).2) (((a 6).xs.getD 4 (none,0)).1) (((a 6).xs.getD 5 (none,0)).2))),(11,.osl (((a 6).xs.getD 0 (none,0)).1) (((a 6).xs.getD 1 (none,0)).2) 52 7 []),(12,.osl (((a 6).xs.getD 2 (none,0)).1) (((a 6).xs.getD 3 (none,0)).2) 80 5 []),(13,.osl (((a 6).xs.getD 4 (none,0)).1) (((a 6).xs.getD 5 (none,0)).2) 76 4 [])]) (fun w hw => unbag_mem (k := 9) (nk := [11,12,13]) (keys := [5,10,11,12,13]) hw rfl rfl rfl rfl (by kernel_rfl)) ?_
 have hy := Option.some.inj hm
 subst hy
 refine GS.ret (fn := Try.f6) [0,0] [pA ((a 8).x) 0,vI 0] [] rfl Try.func6 (by kernel_rfl) trivial (fun w' hs => ?_)
 exact ⟨⟨(a 8).x,(c 3).ob,(c 3).cap,((a 6).xs.getD 0 (none,0)).1,((a 6).xs.getD 1 (none,0)).2,((a 6).xs.getD 2 (none,0)).1,((a 6).xs.getD 3 (none,0)).2,((a 6).xs.getD 4 (none,0)).1,((a 6).xs.getD 5 (none,0)).2⟩,rfl,hs.turnedG (ks := [10,5,11,12,13]) rfl rfl⟩

theorem w_slices_IndexFunc___api_Msg_api_Msg_ (F a1c0b : Nat) (a1c0_40_o : Option Addr) (a1c0_40_c : Nat) {y : Unit} (hm : m_slices_IndexFunc___api_Msg_api_Msg_ F = some y) : CallG Try.prog 32 #[.slice none 0 0,.func (.func 22) #[] #[pA a1c0b 0]] (X := Unit) (fun (_ : Unit) => vI (-1)) [] [.rd a1c0_40_o 1 [[.int .u8 120]],.rd (some ⟨a1c0b,0,none⟩) 46 [(kc8 a1c0_40_o a1c0_40_c)]] (fun (_ : Unit) => []) := by
 intro w hg
 rw [m_slices_IndexFunc___api_Msg_api_Msg_] at hm
 refine GS.start (S := mayT [] [.rd a1c0_40_o 1 [[.int .u8 120]],.rd (some ⟨a1c0b,0,none⟩) 46 [(kc8 a1c0_40_o a1c0_40_c)]]) (mem := [(1,.rd a1c0_40_o 1 [[.int .u8 120]]),(2,.rd (some ⟨a1c0b,0,none⟩) 46 [(kc8 a1c0_40_o a1c0_40_c)])]) Try.func32 rfl Try.ntmps32 (Nat.le_of_ble_eq_true rfl) (hg.start rfl) ?_
 refine GS.conv (env' := [(0,.slice none 0 0),(1,.func (.func 22) #[] #[pA a1c0b 0])]) rfl rfl ?_
 refine GS.seq ?_
 refine GS.tzM (fun _ => [(0,.slice none 0 0),(1,.func (.func 22) #[] #[pA a1c0b 0])]) [] ?_
 intro _
 refine GS.seq ?_
 refine GS.seq ?_
 refine GS.tzM (fun _ => [(0,.slice none 0 0),(1,.func (.func 22) #[] #[pA a1c0b 0]),(7,vI 0),(8,vI 0)]) [] ?_
 intro _
 refine GS.block ?_
 refine GS.loop ?_
 refine GS.seq ?_
 refine GS.tzM (fun _ => [(0,.slice none 0 0),(1,.func (.func 22) #[] #[pA a1c0b 0]),(7,vI 0),(8,vI 0),(9,.bool false)]) [] ?_
 intro _
 refine GS.seq ?_
 refine GS.cond (t := false) rfl rfl (fun hf => by cases hf) (fun _ => ?_)
 refine GS.exit rfl ?_
 refine GS.seq ?_
 refine GS.tz (fun _ => [(4,vI (-1))]) (fun _ => []) [] ?_
 intro _
 have hy := Option.some.inj hm
 subst hy
 refine GS.ret (fn := Try.f32) [0] [vI (-1)] [] rfl Try.func32 (by kernel_rfl) trivial (fun w' hs => ?_)
 exact ⟨(),rfl,hs.turnedG (ks := []) rfl rfl⟩

theorem w_slices_ContainsFunc___api_Msg_api_Msg_ (F a1c0b : Nat) (a1c0_40_o : Option Addr) (a1c0_40_c : Nat) {y : Unit} (hm : m_slices_ContainsFunc___api_Msg_api_Msg_ F = some y) : CallG Try.prog 25 #[.slice none 0 0,.func (.func 22) #[] #[pA a1c0b 0]] (X := Unit) (fun (_ : Unit) => .bool false) [] [.rd a1c0_40_o 1 [[.int .u8 120]],.rd (some ⟨a1c0b,0,none⟩) 46 [(kc8 a1c0_40_o a1c0_40_c)]] (fun (_ : Unit) => []) := by
 intro w hg
 rw [m_slices_ContainsFunc___api_Msg_api_Msg_] at hm
 refine GS.start (S := mayT [] [.rd a1c0_40_o 1 [[.int .u8 120]],.rd (some ⟨a1c0b,0,none⟩) 46 [(kc8 a1c0_40_o a1c0_40_c)]]) (mem := [(1,.rd a1c0_40_o 1 [[.int .u8 120]]),(2,.rd (some ⟨a1c0b,0,none⟩) 46 [(kc8 a1c0_40_o a1c0_40_c)])]) Try.func25 rfl Try.ntmps25 (Nat.le_of_ble_eq_true rfl) (hg.start rfl) ?_
 refine GS.conv (env' := [(0,.slice none 0 0),(1,.func (.func 22) #[] #[pA a1c0b 0])]) rfl rfl ?_
 refine GS.seq ?_
 refine GS.tzM (fun _ => [(0,.slice none 0 0),(1,.func (.func 22) #[] #[pA a1c0b 0])]) [] ?_
 intro _
 refine GS.seq ?_
 refine bnd_elim hm (fun y3 e4 hm => ?_)
 refine GS.tg (fun _ => [(4,.bool false)]) (fun _ => []) [(2,{ act := .call [1,2] (vI (-1)) })] (fun _ => [CallOK Try.prog 32 #[.slice none 0 0,.func (.func 22) #[] #[pA a1c0b 0]] (vI (-1)) [some (.rd a1c0_40_o 1 [[.int .u8 120]]),some (.rd (some ⟨a1c0b,0,none⟩) 46 [(kc8 a1c0_40_o a1c0_40_c)])]]) (fun _ => ⟨(by have h1 := w_slices_IndexFunc___api_Msg_api_Msg_ F a1c0b a1c0_40_o a1c0_40_c e4; exact h1.ok ⟨(.inl ⟨.rd a1c0_40_o 1 [[.int .u8 120]],.head _,Cov.refl _⟩),(.inl ⟨.rd (some ⟨a1c0b,0,none⟩) 46 [(kc8 a1c0_40_o a1c0_40_c)],(.tail _ (.head _)),Cov.refl _⟩),trivial⟩),trivial⟩) ?_
 intro _
 have hy := Option.some.inj hm
 subst hy
 refine GS.ret (fn := Try.f25) [0] [.bool false] [] rfl Try.func25 (by kernel_rfl) trivial (fun w' hs => ?_)
 exact ⟨(),rfl,hs.turnedG (ks := []) rfl rfl⟩

theorem w_slices_Clone___byte_byte_ (F : Nat) (b : Option Addr) (c : Nat) {y : Unit} (hm : m_slices_Clone___byte_byte_ F = some y) : CallG Try.prog 26 #[.slice b 1 c] (X := Option Addr × Nat) (fun ⟨x0,x1⟩ => .slice x0 1 x1) [] [.rd b 1 [[.int .u8 120]]] (fun ⟨x0,x1⟩ => [.osl x0 x1 5 1 [[.int .u8 120]]]) := by
 intro w hg
 rw [m_slices_Clone___byte_byte_] at hm
 refine GS.start (S := mayT [] [.rd b 1 [[.int .u8 120]]]) (mem := [(1,.rd b 1 [[.int .u8 120]])]) Try.func26 rfl Try.ntmps26 (Nat.le_of_ble_eq_true rfl) (hg.start rfl) ?_
 refine GS.conv (env' := [(0,.slice b 1 c)]) rfl rfl ?_
 refine GS.seq ?_
 refine GS.tzM (fun _ => [(0,.slice b 1 c)]) [] ?_
 intro _
 refine GS.seq ?_
 refine GS.seq ?_
 refine GS.know (p := b.isNone = false) (fun w hw => ne_rd (hw.ok 1 _ rfl)) (fun k2 => ?_)
 refine GS.tgM (fun _ => [(0,.slice b 1 c),(4,.bool false)]) [(1,{ act := .nilq,sp := some (.bool false) })] (fun _ => [((.bool b.isNone : Value)) = .bool false]) (fun _ => ⟨(bool_eq k2),trivial⟩) ?_
 intro _
 refine GS.cond (t := false) rfl rfl (fun hf => by cases hf) (fun _ => ?_)
 refine GS.skip ?_
 refine GS.seq ?_
 refine GS.tg (fun a => [(2,.slice ((a 2).ob) 1 ((a 2).cap))]) (fun a => [(2,.osl ((a 2).ob) ((a 2).cap) 5 1 (([] : List (List Value)) ++ ([[.int .u8 120]] : List (List Value))))]) [(0,{ act := .new (.row 0 1),key := some 2 }),(2,{ act := .app (some 1),key := some 2,spf := some (fun f => .slice (f.ob) 1 (f.cap)) })] (fun a => [b = b,1 = ([[.int .u8 120]] : List (List Value)).length,(some (Addr.mk (a 0).x 0 none)) = (some (Addr.mk (a 0).x 0 none)),0 = 0,0 = ([] : List (List Value)).length,(([] : List (List Value)).length + ([[.int .u8 120]] : List (List Value)).length) * (1 + 1) ≤ 70368744177664,([[.int .u8 120]] : List (List Value)).flatten.all Value.oneCell' = true,((.slice ((a 2).ob) (0 + ([[.int .u8 120]] : List (List Value)).length) ((a 2).cap)) : Value) = .slice ((a 2).ob) 1 ((a 2).cap)]) (fun a => ⟨rfl,rfl,rfl,rfl,rfl,(show (0 + 1) * (1 + 1) ≤ 70368744177664 by decide),rfl,rfl,trivial⟩) ?_
 intro a
 refine GS.conv (mem' := [(2,.osl ((a 2).ob) ((a 2).cap) 5 1 [[.int .u8 120]])]) rfl (congrArg (fun rr : List (List Value) => ([(2,.osl ((a 2).ob) ((a 2).cap) 5 1 rr)] : List (Nat × Ent))) (show ([] : List (List Value)) ++ ([[.int .u8 120]] : List (List Value)) = ([[.int .u8 120]] : List (List Value)) from rfl)) ?_
 have hy := Option.some.inj hm
 subst hy
 refine GS.ret (fn := Try.f26) [0] [.slice ((a 2).ob) 1 ((a 2).cap)] [] rfl Try.func26 (by kernel_rfl) trivial (fun w' hs => ?_)
 exact ⟨⟨(a 2).ob,(a 2).cap⟩,rfl,hs.turnedG (ks := [2]) rfl rfl⟩

theorem w_pglog_Seen (F : Nat) (b : Option Addr) (f : Nat) (a : Option Addr) (e : Nat) (c : Option Addr) (g : Nat) {y : Unit} (hm : m_pglog_Seen F = some y) : CallG Try.prog 37 #[.agg ((kc5 b f a e c g)).toArray,vI 5,vI 1] (X := Unit) (fun (_ : Unit) => .tuple #[.agg ((kc12)).toArray,vI 0]) [] [.rd b 7 [],.rd a 5 [],.rd c 4 []] (fun (_ : Unit) => []) := by
 intro w hg
 rw [m_pglog_Seen] at hm
 refine GS.start (S := mayT [] [.rd b 7 [],.rd a 5 [],.rd c 4 []]) (mem := [(1,.rd b 7 []),(2,.rd a 5 []),(3,.rd c 4 [])]) Try.func37 rfl Try.ntmps37 (Nat.le_of_ble_eq_true rfl) (hg.start rfl) ?_
 refine GS.conv (env' := [(0,.agg ((kc5 b f a e c g)).toArray),(1,vI 5),(2,vI 1)]) rfl rfl ?_
 refine GS.seq ?_
 refine GS.tz (fun d => [(1,vI 5),(2,vI 1),(3,pA ((d 0).x) 0),(6,pA ((d 1).x) 0)]) (fun d => [(1,.rd b 7 []),(2,.rd a 5 []),(3,.rd c 4 []),(4,.cells ((d 0).x) 31 (kc5 b f a e c g)),(5,.cells ((d 1).x) 80 (kc12))]) [(0,{ act := .new .var,key := some 4 }),(1,{ act := .new .var,key := some 5 })] ?_
 intro d
 refine GS.seq ?_
 refine GS.seq ?_
 refine GS.tg (fun _ => [(1,vI 5),(2,vI 1),(6,pA ((d 1).x) 0),(11,.slice a 0 e),(12,vI 0),(13,vI 0)]) (fun _ => [(2,.rd a 5 []),(5,.cells ((d 1).x) 80 (kc12))]) [(1,{ act := .load 4 0 0 [] })] (fun _ => [(d 0).x = (d 0).x]) (fun _ => ⟨rfl,trivial⟩) ?_
 intro _
 refine GS.block ?_
 refine GS.loop ?_
 refine GS.seq ?_
 refine GS.tzM (fun _ => [(1,vI 5),(2,vI 1),(6,pA ((d 1).x) 0),(11,.slice a 0 e),(12,vI 0),(13,vI 0),(14,.bool false)]) [] ?_
 intro _
 refine GS.seq ?_
 refine GS.cond (t := false) rfl rfl (fun hf => by cases hf) (fun _ => ?_)
 refine GS.exit rfl ?_
 refine GS.seq ?_
 refine GS.tg (fun _ => [(6,pA ((d 1).x) 0),(7,vI 0)]) (fun _ => [(5,.cells ((d 1).x) 80 (kc12))]) [(1,{ act := .store 0 0 [],key := some 5 })] (fun _ => [(d 1).x = (d 1).x,oC (.agg ((kc12)).toArray)]) (fun _ => ⟨rfl,rfl,trivial⟩) ?_
 intro _
 have hy := Option.some.inj hm
 subst hy
 refine GS.ret (fn := Try.f37) [5,0] [.agg ((kc12)).toArray,vI 0] [(d 1).x = (d 1).x] rfl Try.func37 (by kernel_rfl) ⟨rfl,trivial⟩ (fun w' hs => ?_)
 exact ⟨(),rfl,hs.turnedG (ks := []) rfl rfl⟩

theorem w_pglog_Find (F : Nat) (b : Option Addr) (f : Nat) (c : Option Addr) (g : Nat) (a : Option Addr) (e : Nat) {y : Unit} (hm : m_pglog_Find F = some y) : CallG Try.prog 35 #[.agg ((kc5 b f c g a e)).toArray,.string (ByteArray.mk #[97])] (X := Unit) (fun (_ : Unit) => .tuple #[.agg ((kc14)).toArray,.bool false]) [] [.rd b 7 [],.rd c 5 [],.rd a 4 []] (fun (_ : Unit) => []) := by
 intro w hg
 rw [m_pglog_Find] at hm
 refine GS.start (S := mayT [] [.rd b 7 [],.rd c 5 [],.rd a 4 []]) (mem := [(1,.rd b 7 []),(2,.rd c 5 []),(3,.rd a 4 [])]) Try.func35 rfl Try.ntmps35 (Nat.le_of_ble_eq_true rfl) (hg.start rfl) ?_
 refine GS.conv (env' := [(0,.agg ((kc5 b f c g a e)).toArray),(1,.string (ByteArray.mk #[97]))]) rfl rfl ?_
 refine GS.seq ?_
 refine GS.tz (fun d => [(1,.string (ByteArray.mk #[97])),(2,pA ((d 0).x) 0),(4,pA ((d 1).x) 0)]) (fun d => [(1,.rd b 7 []),(2,.rd c 5 []),(3,.rd a 4 []),(4,.cells ((d 0).x) 31 (kc5 b f c g a e)),(5,.cells ((d 1).x) 76 (kc14))]) [(0,{ act := .new .var,key := some 4 }),(1,{ act := .new .var,key := some 5 })] ?_
 intro d
 refine GS.seq ?_
 refine GS.seq ?_
 refine GS.tg (fun _ => [(1,.string (ByteArray.mk #[97])),(4,pA ((d 1).x) 0),(9,.slice a 0 e),(10,vI 0),(11,vI 0)]) (fun _ => [(3,.rd a 4 []),(5,.cells ((d 1).x) 76 (kc14))]) [(1,{ act := .load 4 0 0 [] })] (fun _ => [(d 0).x = (d 0).x]) (fun _ => ⟨rfl,trivial⟩) ?_
 intro _
 refine GS.block ?_
 refine GS.loop ?_
 refine GS.seq ?_
 refine GS.tzM (fun _ => [(1,.string (ByteArray.mk #[97])),(4,pA ((d 1).x) 0),(9,.slice a 0 e),(10,vI 0),(11,vI 0),(12,.bool false)]) [] ?_
 intro _
 refine GS.seq ?_
 refine GS.cond (t := false) rfl rfl (fun hf => by cases hf) (fun _ => ?_)
 refine GS.exit rfl ?_
 refine GS.seq ?_
 refine GS.tg (fun _ => [(4,pA ((d 1).x) 0),(5,.bool false)]) (fun _ => [(5,.cells ((d 1).x) 76 (kc14))]) [(1,{ act := .store 0 0 [],key := some 5 })] (fun _ => [(d 1).x = (d 1).x,oC (.agg ((kc14)).toArray)]) (fun _ => ⟨rfl,rfl,trivial⟩) ?_
 intro _
 have hy := Option.some.inj hm
 subst hy
 refine GS.ret (fn := Try.f35) [5,0] [.agg ((kc14)).toArray,.bool false] [(d 1).x = (d 1).x] rfl Try.func35 (by kernel_rfl) ⟨rfl,trivial⟩ (fun w' hs => ?_)
 exact ⟨(),rfl,hs.turnedG (ks := []) rfl rfl⟩

theorem w_place_Good (F : Nat) {y : Unit} (hm : m_place_Good F = some y) : CallG Try.prog 21 #[.string (ByteArray.mk #[97])] (X := Unit) (fun (_ : Unit) => .bool true) [] [] (fun (_ : Unit) => []) := by
 intro w hg
 rw [m_place_Good] at hm
 refine GS.start (S := mayT [] []) (mem := []) Try.func21 rfl Try.ntmps21 (Nat.le_of_ble_eq_true rfl) (hg.start rfl) ?_
 refine GS.conv (env' := [(0,.string (ByteArray.mk #[97]))]) rfl rfl ?_
 refine GS.seq ?_
 refine GS.tzM (fun _ => [(0,.string (ByteArray.mk #[97]))]) [] ?_
 intro _
 refine GS.seq ?_
 refine GS.seq ?_
 refine GS.tgM (fun _ => [(0,.string (ByteArray.mk #[97])),(6,vI 1),(7,vI 0)]) [(1,{ sp := some (vI 1) })] (fun _ => [((vI (((ByteArray.mk #[97]).size : Nat) : Int)) : Value) = vI 1]) (fun _ => ⟨rfl,trivial⟩) ?_
 intro _
 refine GS.block ?_
 refine GS.loop ?_
 refine GS.seq ?_
 refine GS.tzM (fun _ => [(0,.string (ByteArray.mk #[97])),(6,vI 1),(7,vI 0),(8,.bool true)]) [] ?_
 intro _
 refine GS.seq ?_
 refine GS.cond (t := true) rfl rfl (fun _ => ?_) (fun hf => by cases hf)
 refine GS.skip ?_
 refine GS.seq ?_
 refine GS.block ?_
 refine GS.seq ?_
 refine GS.tzM (fun _ => [(0,.string (ByteArray.mk #[97])),(3,vI 0),(6,vI 1),(7,vI 0)]) [] ?_
 intro _
 refine GS.seq ?_
 refine GS.tgM (fun _ => [(0,.string (ByteArray.mk #[97])),(4,.int .u8 97),(6,vI 1),(7,vI 0)]) [(2,{ act := .elt 0,sp := some (.int .u8 97) })] (fun _ => [(0 : Int) = (0 : Int),0 < (ByteArray.mk #[97]).size,((.int .u8 ((((ByteArray.mk #[97]).data.getD 0 0).toNat : Nat) : Int)) : Value) = .int .u8 97]) (fun _ => ⟨rfl,(Nat.le_of_ble_eq_true rfl),(by kernel_rfl),trivial⟩) ?_
 intro _
 refine GS.block ?_
 refine GS.seq ?_
 refine GS.seq ?_
 refine GS.tzM (fun _ => [(0,.string (ByteArray.mk #[97])),(4,.int .u8 97),(6,vI 1),(7,vI 0),(13,.bool false)]) [] ?_
 intro _
 refine GS.cond (t := false) rfl rfl (fun hf => by cases hf) (fun _ => ?_)
 refine GS.tzM (fun _ => [(0,.string (ByteArray.mk #[97])),(6,vI 1),(7,vI 0),(13,.bool false)]) [] ?_
 intro _
 refine GS.cond (t := false) rfl rfl (fun hf => by cases hf) (fun _ => ?_)
 refine GS.skip ?_
 refine GS.inBlock ?_
 refine GS.inBlock ?_
 refine GS.tzM (fun _ => [(0,.string (ByteArray.mk #[97])),(6,vI 1),(7,vI 1)]) [] ?_
 intro _
 refine GS.inLoop ?_
 refine GS.seq ?_
 refine GS.tzM (fun _ => [(0,.string (ByteArray.mk #[97])),(6,vI 1),(7,vI 1),(8,.bool false)]) [] ?_
 intro _
 refine GS.seq ?_
 refine GS.cond (t := false) rfl rfl (fun hf => by cases hf) (fun _ => ?_)
 refine GS.exit rfl ?_
 refine GS.seq ?_
 refine GS.tgM (fun _ => [(2,.bool true)]) [(1,{ sp := some (.bool true) }),(4,{ sp := some (vI 1) })] (fun _ => [((.bool (!((ByteArray.mk #[97]).toList == (ByteArray.mk #[]).toList))) : Value) = .bool true,((vI (((ByteArray.mk #[97]).size : Nat) : Int)) : Value) = vI 1]) (fun _ => ⟨(by kernel_rfl),rfl,trivial⟩) ?_
 intro _
 have hy := Option.some.inj hm
 subst hy
 refine GS.ret (fn := Try.f21) [0] [.bool true] [] rfl Try.func21 (by kernel_rfl) trivial (fun w' hs => ?_)
 exact ⟨(),rfl,hs.turnedG (ks := []) rfl rfl⟩

theorem w_primary_Verdict (F : Nat) (b : Option Addr) (f : Nat) (c : Option Addr) (g : Nat) (d : Option Addr) (h : Nat) (e : Option Addr) (i : Nat) {y : Unit} (hm : m_primary_Verdict F = some y) : CallG Try.prog 39 #[.agg ((kc5 b f c g d h)).toArray,.agg ((kc13 e i)).toArray] (X := Unit) (fun (_ : Unit) => vI 0) [] [.rd b 7 [],.rd c 5 [],.rd d 4 [],.rd e 1 [[.int .u8 120]]] (fun (_ : Unit) => []) := by
 intro w hg
 rw [m_primary_Verdict] at hm
 refine GS.start (S := mayT [] [.rd b 7 [],.rd c 5 [],.rd d 4 [],.rd e 1 [[.int .u8 120]]]) (mem := [(1,.rd b 7 []),(2,.rd c 5 []),(3,.rd d 4 []),(4,.rd e 1 [[.int .u8 120]])]) Try.func39 rfl Try.ntmps39 (Nat.le_of_ble_eq_true rfl) (hg.start rfl) ?_
 refine GS.conv (env' := [(0,.agg ((kc5 b f c g d h)).toArray),(1,.agg ((kc13 e i)).toArray)]) rfl rfl ?_
 refine GS.seq ?_
 refine GS.tz (fun a => [(2,pA ((a 0).x) 0),(3,pA ((a 1).x) 0)]) (fun a => [(1,.rd b 7 []),(2,.rd c 5 []),(3,.rd d 4 []),(4,.rd e 1 [[.int .u8 120]]),(5,.cells ((a 0).x) 31 (kc5 b f c g d h)),(6,.cells ((a 1).x) 45 (kc13 e i))]) [(0,{ act := .new .var,key := some 5 }),(1,{ act := .new .var,key := some 6 })] ?_
 intro a
 refine GS.seq ?_
 refine bnd_elim hm (fun y3 e4 hm => ?_)
 refine GS.tg (fun j => [(2,pA ((a 0).x) 0),(3,pA ((a 1).x) 0),(5,pA ((j 7).x) 0),(6,.bool false)]) (fun j => [(1,.rd b 7 []),(2,.rd c 5 []),(3,.rd d 4 []),(4,.rd e 1 [[.int .u8 120]]),(5,.cells ((a 0).x) 31 (kc5 b f c g d h)),(6,.cells ((a 1).x) 45 (kc13 e i)),(7,.cells ((j 7).x) 76 (kc14))]) [(0,{ act := .load 5 0 0 [] }),(2,{ act := .load 6 0 0 [] }),(3,{ act := .call [1,2,3] (.tuple #[.agg ((kc14)).toArray,.bool false]) }),(7,{ act := .new .var,key := some 7 }),(8,{ act := .store 0 0 [],key := some 7 })] (fun j => [(a 0).x = (a 0).x,(a 1).x = (a 1).x,CallOK Try.prog 35 #[.agg ((kc5 b f c g d h)).toArray,.string (ByteArray.mk #[97])] (.tuple #[.agg ((kc14)).toArray,.bool false]) [some (.rd b 7 []),some (.rd c 5 []),some (.rd d 4 [])],(j 7).x = (j 7).x,oC (.agg ((kc14)).toArray)]) (fun j => ⟨rfl,rfl,(by have h1 := w_pglog_Find F b f c g d h e4; exact h1.ok ⟨(.inl ⟨.rd b 7 [],.head _,Cov.refl _⟩),(.inl ⟨.rd c 5 [],(.tail _ (.head _)),Cov.refl _⟩),(.inl ⟨.rd d 4 [],(.tail _ (.tail _ (.head _))),Cov.refl _⟩),trivial⟩),rfl,rfl,trivial⟩) ?_
 intro j
 refine GS.seq ?_
 refine GS.tg (fun _ => [(3,pA ((a 1).x) 0),(5,pA ((j 7).x) 0),(6,.bool false),(7,.bool false)]) (fun _ => [(4,.rd e 1 [[.int .u8 120]]),(6,.cells ((a 1).x) 45 (kc13 e i)),(7,.cells ((j 7).x) 76 (kc14))]) [(4,{ act := .load 5 0 0 [] })] (fun _ => [(a 0).x = (a 0).x]) (fun _ => ⟨rfl,trivial⟩) ?_
 intro _
 refine GS.seq ?_
 refine GS.seq ?_
 refine GS.tgM (fun _ => [(3,pA ((a 1).x) 0),(5,pA ((j 7).x) 0),(6,.bool false),(7,.bool false),(24,vI 2)]) [(1,{ act := .load 6 0 0 [] })] (fun _ => [(a 1).x = (a 1).x]) (fun _ => ⟨rfl,trivial⟩) ?_
 intro _
 refine GS.block ?_
 refine GS.seq ?_
 refine GS.seq ?_
 refine GS.tzM (fun _ => [(3,pA ((a 1).x) 0),(5,pA ((j 7).x) 0),(6,.bool false),(7,.bool false),(24,vI 2),(25,.bool true)]) [] ?_
 intro _
 refine GS.cond (t := true) rfl rfl (fun _ => ?_) (fun hf => by cases hf)
 refine GS.skip ?_
 refine GS.cond (t := true) rfl rfl (fun _ => ?_) (fun hf => by cases hf)
 refine GS.skip ?_
 refine GS.inBlock ?_
 refine GS.seq ?_
 refine GS.block ?_
 refine GS.seq ?_
 refine bnd_elim hm (fun y9 k hm => ?_)
 refine GS.tgM (fun _ => [(3,pA ((a 1).x) 0),(5,pA ((j 7).x) 0),(6,.bool false),(7,.bool false),(29,.bool false)]) [(1,{ act := .load 6 0 0 [] }),(2,{ act := .call [] (.bool true) })] (fun _ => [(a 1).x = (a 1).x,CallOK Try.prog 21 #[.string (ByteArray.mk #[97])] (.bool true) []]) (fun _ => ⟨rfl,(by have h1 := w_place_Good F  k; exact h1.ok trivial),trivial⟩) ?_
 intro _
 refine GS.cond (t := false) rfl rfl (fun hf => by cases hf) (fun _ => ?_)
 refine GS.seq ?_
 refine GS.tgM (fun _ => [(3,pA ((a 1).x) 0),(5,pA ((j 7).x) 0),(6,.bool false),(7,.bool false),(34,.bool false)]) [(1,{ act := .load 6 0 0 [] })] (fun _ => [(a 1).x = (a 1).x]) (fun _ => ⟨rfl,trivial⟩) ?_
 intro _
 refine GS.cond (t := false) rfl rfl (fun hf => by cases hf) (fun _ => ?_)
 refine GS.seq ?_
 refine GS.tgM (fun _ => [(3,pA ((a 1).x) 0),(5,pA ((j 7).x) 0),(7,.bool false),(39,.bool false)]) [(1,{ act := .load 6 0 0 [] })] (fun _ => [(a 1).x = (a 1).x]) (fun _ => ⟨rfl,trivial⟩) ?_
 intro _
 refine GS.cond (t := false) rfl rfl (fun hf => by cases hf) (fun _ => ?_)
 refine GS.seq ?_
 refine GS.tg (fun _ => [(3,pA ((a 1).x) 0),(7,.bool false),(47,.bool false)]) (fun _ => [(4,.rd e 1 [[.int .u8 120]]),(6,.cells ((a 1).x) 45 (kc13 e i))]) [(1,{ act := .load 6 0 0 [] })] (fun _ => [(a 1).x = (a 1).x]) (fun _ => ⟨rfl,trivial⟩) ?_
 intro _
 refine GS.cond (t := false) rfl rfl (fun hf => by cases hf) (fun _ => ?_)
 refine GS.seq ?_
 refine GS.tg (fun _ => [(58,.bool false)]) (fun _ => []) [(1,{ act := .load 6 0 0 [] })] (fun _ => [(a 1).x = (a 1).x]) (fun _ => ⟨rfl,trivial⟩) ?_
 intro _
 refine GS.cond (t := false) rfl rfl (fun hf => by cases hf) (fun _ => ?_)
 refine GS.skip ?_
 refine GS.inBlock ?_
 refine GS.seq ?_
 refine GS.tzM (fun _ => [(4,vI 0)]) [] ?_
 intro _
 have hy := Option.some.inj hm
 subst hy
 refine GS.ret (fn := Try.f39) [0] [vI 0] [] rfl Try.func39 (by kernel_rfl) trivial (fun w' hs => ?_)
 exact ⟨(),rfl,hs.turnedG (ks := []) rfl rfl⟩

theorem w_pglog_Head (F : Nat) (b : Option Addr) (e : Nat) (c : Option Addr) (f : Nat) (d : Option Addr) (g : Nat) {y : Unit} (hm : m_pglog_Head F = some y) : CallG Try.prog 48 #[.agg ((kc5 b e c f d g)).toArray] (X := Unit) (fun (_ : Unit) => .agg #[vI 0,vI 0]) [] [.rd b 7 [],.rd c 5 [],.rd d 4 []] (fun (_ : Unit) => []) := by
 intro w hg
 rw [m_pglog_Head] at hm
 refine GS.start (S := mayT [] [.rd b 7 [],.rd c 5 [],.rd d 4 []]) (mem := [(1,.rd b 7 []),(2,.rd c 5 []),(3,.rd d 4 [])]) Try.func48 rfl Try.ntmps48 (Nat.le_of_ble_eq_true rfl) (hg.start rfl) ?_
 refine GS.conv (env' := [(0,.agg ((kc5 b e c f d g)).toArray)]) rfl rfl ?_
 refine GS.seq ?_
 refine GS.tz (fun a => [(1,pA ((a 0).x) 0),(2,pA ((a 1).x) 0)]) (fun a => [(1,.rd b 7 []),(2,.rd c 5 []),(3,.rd d 4 []),(4,.cells ((a 0).x) 31 (kc5 b e c f d g)),(5,.cells ((a 1).x) 26 [vI 0,vI 0])]) [(0,{ act := .new .var,key := some 4 }),(1,{ act := .new .var,key := some 5 })] ?_
 intro a
 refine GS.seq ?_
 refine GS.seq ?_
 refine GS.tgM (fun _ => [(1,pA ((a 0).x) 0),(2,pA ((a 1).x) 0),(3,vI 0)]) [(1,{ act := .load 4 0 0 [] })] (fun _ => [(a 0).x = (a 0).x]) (fun _ => ⟨rfl,trivial⟩) ?_
 intro _
 refine GS.seq ?_
 refine GS.tzM (fun _ => [(1,pA ((a 0).x) 0),(2,pA ((a 1).x) 0),(3,vI 0),(8,.bool false)]) [] ?_
 intro _
 refine GS.cond (t := false) rfl rfl (fun hf => by cases hf) (fun _ => ?_)
 refine GS.skip ?_
 refine GS.seq ?_
 refine GS.tg (fun _ => [(2,pA ((a 1).x) 0)]) (fun _ => [(5,.cells ((a 1).x) 26 [vI 0,vI 0])]) [(1,{ act := .load 4 0 0 [] }),(2,{ act := .store 0 0 [],key := some 5 })] (fun _ => [(a 0).x = (a 0).x,(a 1).x = (a 1).x,oC (.agg #[vI 0,vI 0])]) (fun _ => ⟨rfl,rfl,rfl,trivial⟩) ?_
 intro _
 have hy := Option.some.inj hm
 subst hy
 refine GS.ret (fn := Try.f48) [5] [.agg #[vI 0,vI 0]] [(a 1).x = (a 1).x] rfl Try.func48 (by kernel_rfl) ⟨rfl,trivial⟩ (fun w' hs => ?_)
 exact ⟨(),rfl,hs.turnedG (ks := []) rfl rfl⟩

theorem w_primary_Next (F : Nat) (a : Option Addr) (e : Nat) (b : Option Addr) (f : Nat) (c : Option Addr) (g : Nat) {y : Unit} (hm : m_primary_Next F = some y) : CallG Try.prog 40 #[.agg ((kc5 a e b f c g)).toArray,vI 3] (X := Unit) (fun (_ : Unit) => .agg #[vI 3,vI 1]) [] [.rd a 7 [],.rd b 5 [],.rd c 4 []] (fun (_ : Unit) => []) := by
 intro w hg
 rw [m_primary_Next] at hm
 refine GS.start (S := mayT [] [.rd a 7 [],.rd b 5 [],.rd c 4 []]) (mem := [(1,.rd a 7 []),(2,.rd b 5 []),(3,.rd c 4 [])]) Try.func40 rfl Try.ntmps40 (Nat.le_of_ble_eq_true rfl) (hg.start rfl) ?_
 refine GS.conv (env' := [(0,.agg ((kc5 a e b f c g)).toArray),(1,vI 3)]) rfl rfl ?_
 refine GS.seq ?_
 refine GS.tz (fun d => [(1,vI 3),(2,pA ((d 0).x) 0),(4,pA ((d 1).x) 0)]) (fun d => [(1,.rd a 7 []),(2,.rd b 5 []),(3,.rd c 4 []),(4,.cells ((d 0).x) 31 (kc5 a e b f c g)),(5,.cells ((d 1).x) 26 [vI 0,vI 0])]) [(0,{ act := .new .var,key := some 4 }),(1,{ act := .new .var,key := some 5 })] ?_
 intro d
 refine GS.seq ?_
 refine bnd_elim hm (fun y3 e4 hm => ?_)
 refine GS.tg (fun _ => [(4,pA ((d 1).x) 0)]) (fun _ => [(5,.cells ((d 1).x) 26 [vI 3,vI 1])]) [(1,{ act := .load 4 0 0 [] }),(2,{ act := .call [1,2,3] (.agg #[vI 0,vI 0]) }),(6,{ act := .store 0 0 [],key := some 5 })] (fun _ => [(d 0).x = (d 0).x,CallOK Try.prog 48 #[.agg ((kc5 a e b f c g)).toArray] (.agg #[vI 0,vI 0]) [some (.rd a 7 []),some (.rd b 5 []),some (.rd c 4 [])],(d 1).x = (d 1).x,oC (.agg #[vI 3,vI 1])]) (fun _ => ⟨rfl,(by have h1 := w_pglog_Head F a e b f c g e4; exact h1.ok ⟨(.inl ⟨.rd a 7 [],.head _,Cov.refl _⟩),(.inl ⟨.rd b 5 [],(.tail _ (.head _)),Cov.refl _⟩),(.inl ⟨.rd c 4 [],(.tail _ (.tail _ (.head _))),Cov.refl _⟩),trivial⟩),rfl,rfl,trivial⟩) ?_
 intro _
 have hy := Option.some.inj hm
 subst hy
 refine GS.ret (fn := Try.f40) [5] [.agg #[vI 3,vI 1]] [(d 1).x = (d 1).x] rfl Try.func40 (by kernel_rfl) ⟨rfl,trivial⟩ (fun w' hs => ?_)
 exact ⟨(),rfl,hs.turnedG (ks := []) rfl rfl⟩

theorem w_slices_Clone___int_int_ (F : Nat) (b : Option Addr) (c : Nat) {y : Unit} (hm : m_slices_Clone___int_int_ F = some y) : CallG Try.prog 41 #[.slice b 1 c] (X := Option Addr × Nat) (fun ⟨x0,x1⟩ => .slice x0 1 x1) [] [.rd b 1 [[vI 1]]] (fun ⟨x0,x1⟩ => [.osl x0 x1 3 1 [[vI 1]]]) := by
 intro w hg
 rw [m_slices_Clone___int_int_] at hm
 refine GS.start (S := mayT [] [.rd b 1 [[vI 1]]]) (mem := [(1,.rd b 1 [[vI 1]])]) Try.func41 rfl Try.ntmps41 (Nat.le_of_ble_eq_true rfl) (hg.start rfl) ?_
 refine GS.conv (env' := [(0,.slice b 1 c)]) rfl rfl ?_
 refine GS.seq ?_
 refine GS.tzM (fun _ => [(0,.slice b 1 c)]) [] ?_
 intro _
 refine GS.seq ?_
 refine GS.seq ?_
 refine GS.know (p := b.isNone = false) (fun w hw => ne_rd (hw.ok 1 _ rfl)) (fun k2 => ?_)
 refine GS.tgM (fun _ => [(0,.slice b 1 c),(4,.bool false)]) [(1,{ act := .nilq,sp := some (.bool false) })] (fun _ => [((.bool b.isNone : Value)) = .bool false]) (fun _ => ⟨(bool_eq k2),trivial⟩) ?_
 intro _
 refine GS.cond (t := false) rfl rfl (fun hf => by cases hf) (fun _ => ?_)
 refine GS.skip ?_
 refine GS.seq ?_
 refine GS.tg (fun a => [(2,.slice ((a 2).ob) 1 ((a 2).cap))]) (fun a => [(2,.osl ((a 2).ob) ((a 2).cap) 3 1 (([] : List (List Value)) ++ ([[vI 1]] : List (List Value))))]) [(0,{ act := .new (.row 0 1),key := some 2 }),(2,{ act := .app (some 1),key := some 2,spf := some (fun f => .slice (f.ob) 1 (f.cap)) })] (fun a => [b = b,1 = ([[vI 1]] : List (List Value)).length,(some (Addr.mk (a 0).x 0 none)) = (some (Addr.mk (a 0).x 0 none)),0 = 0,0 = ([] : List (List Value)).length,(([] : List (List Value)).length + ([[vI 1]] : List (List Value)).length) * (8 + 1) ≤ 70368744177664,([[vI 1]] : List (List Value)).flatten.all Value.oneCell' = true,((.slice ((a 2).ob) (0 + ([[vI 1]] : List (List Value)).length) ((a 2).cap)) : Value) = .slice ((a 2).ob) 1 ((a 2).cap)]) (fun a => ⟨rfl,rfl,rfl,rfl,rfl,(show (0 + 1) * (8 + 1) ≤ 70368744177664 by decide),rfl,rfl,trivial⟩) ?_
 intro a
 refine GS.conv (mem' := [(2,.osl ((a 2).ob) ((a 2).cap) 3 1 [[vI 1]])]) rfl (congrArg (fun rr : List (List Value) => ([(2,.osl ((a 2).ob) ((a 2).cap) 3 1 rr)] : List (Nat × Ent))) (show ([] : List (List Value)) ++ ([[vI 1]] : List (List Value)) = ([[vI 1]] : List (List Value)) from rfl)) ?_
 have hy := Option.some.inj hm
 subst hy
 refine GS.ret (fn := Try.f41) [0] [.slice ((a 2).ob) 1 ((a 2).cap)] [] rfl Try.func41 (by kernel_rfl) trivial (fun w' hs => ?_)
 exact ⟨⟨(a 2).ob,(a 2).cap⟩,rfl,hs.turnedG (ks := [2]) rfl rfl⟩

theorem w_digest_New (F : Nat) {y : Unit} (hm : m_digest_New F = some y) : CallG Try.prog 43 #[] (X := Nat) (fun (x0 : Nat) => pA x0 0) [] [] (fun (x0 : Nat) => [.cells x0 136 (([.int .u32 0,.int .i32 0,.int .u32 0] : List Value) ++ (aU32 (List.replicate 256 0) ++ (([vI 0] : List Value))))]) := by
 intro w hg
 rw [m_digest_New] at hm
 refine GS.start (S := mayT [] []) (mem := []) Try.func43 rfl Try.ntmps43 (Nat.le_of_ble_eq_true rfl) (hg.start rfl) ?_
 refine GS.conv (env' := []) rfl rfl ?_
 refine GS.seq ?_
 refine GS.tzM (fun _ => []) [] ?_
 intro _
 refine GS.seq ?_
 refine GS.tz (fun a => [(0,pA ((a 1).x) 0)]) (fun a => [(1,.cells ((a 1).x) 136 (([.int .u32 0,.int .i32 0,.int .u32 0] : List Value) ++ (aU32 (List.replicate 256 0) ++ (([vI 0] : List Value)))))]) [(1,{ act := .new .var,key := some 1 })] ?_
 intro a
 have hy := Option.some.inj hm
 subst hy
 refine GS.ret (fn := Try.f43) [0] [pA ((a 1).x) 0] [] rfl Try.func43 (by kernel_rfl) trivial (fun w' hs => ?_)
 exact ⟨((a 1).x),rfl,hs.turnedG (ks := [1]) rfl rfl⟩

theorem w___digest_Engine__make (F o : Nat) (a0 : S_digest_Engine) {y : S_digest_Engine} (hm : m___digest_Engine__make F a0 = some y) : CallG Try.prog 56 #[pA o 0] (X := Unit) (fun (_ : Unit) => .tuple #[]) [.cells o 136 (([.int .u32 a0.once.done.v,.int .i32 a0.once.m.mu.state,.int .u32 a0.once.m.mu.sema] : List Value) ++ (aU32 a0.table ++ (([vI a0.calls.v] : List Value))))] [] (fun (_ : Unit) => [.cells o 136 (([.int .u32 y.once.done.v,.int .i32 y.once.m.mu.state,.int .u32 y.once.m.mu.sema] : List Value) ++ (aU32 y.table ++ (([vI y.calls.v] : List Value))))]) := by
 intro w hg
 rw [m___digest_Engine__make] at hm
 refine GS.start (S := mayT [.cells o 136 (([.int .u32 a0.once.done.v,.int .i32 a0.once.m.mu.state,.int .u32 a0.once.m.mu.sema] : List Value) ++ (aU32 a0.table ++ (([vI a0.calls.v] : List Value))))] []) (mem := [(1,.cells o 136 (([.int .u32 a0.once.done.v,.int .i32 a0.once.m.mu.state,.int .u32 a0.once.m.mu.sema] : List Value) ++ (aU32 a0.table ++ (([vI a0.calls.v] : List Value)))))]) Try.func56 rfl Try.ntmps56 (Nat.le_of_ble_eq_true rfl) (hg.start rfl) ?_
 refine GS.conv (env' := [(0,pA o 0)]) rfl rfl ?_
 refine GS.seq ?_
 refine GS.tzM (fun _ => [(0,pA o 0),(4,vI 0)]) [] ?_
 intro _
 refine GS.block ?_
 refine GS.loop ?_
 refine grd_elim hm (fun K hm => ?_)
 refine GS.rekey (env' := [(0,pA o 0),(4,vI 0)]) (mem' := [(1,.cells o 136 (([.int .u32 a0.once.done.v,.int .i32 a0.once.m.mu.state,.int .u32 a0.once.m.mu.sema] : List Value) ++ (aU32 a0.table ++ (([vI a0.calls.v] : List Value)))))]) [0,4] [(1,1)] (by kernel_rfl) (by kernel_rfl) rfl ?_
 refine loopC_elim hm (fun st169 fn170 hst171 hfn172 hm => ?_)
 refine GS.loopInv (ι := Nat × Nat × List Int) (I := fun ⟨q,g,n⟩ => ((256) - (g : Int) : Int).toNat = q ∧ loopC st169 fn170 q g n = some y) (μ := fun ⟨q,g,n⟩ => q) (E := fun ⟨q,g,n⟩ => [(0,pA o 0),(4,vI (g : Int))]) (M := fun ⟨q,g,n⟩ => [(1,.cells o 136 (([.int .u32 a0.once.done.v,.int .i32 a0.once.m.mu.state,.int .u32 a0.once.m.mu.sema] : List Value) ++ (aU32 n ++ (([vI a0.calls.v] : List Value)))))]) ?_ ⟨(Int.toNat (256 - (0 : Int))),0,a0.table⟩ ⟨rfl,hm⟩
 rintro ⟨q,g,n⟩ ⟨B,hm⟩ J
 cases q with
 | zero =>
  replace hm := (hfn172 _ _).symm.trans hm
  try dsimp only at hm
  refine GS.seq ?_
  refine GS.tzM (fun _ => [(0,pA o 0),(4,vI (g : Int)),(5,.bool (decide ((g : Int) < 256)))]) [] ?_
  intro _
  refine GS.seq ?_
  refine GS.cond (t := decide ((g : Int) < 256)) rfl rfl (fun O => absb O (cnt0 B)) (fun _ => ?_)
  refine GS.exit rfl ?_
  have hy := Option.some.inj hm
  subst hy
  refine GS.end_ (fn := Try.f56) [] [] [] rfl Try.func56 (by kernel_rfl) trivial (fun w' hs => ?_)
  exact ⟨(),rfl,hs.turnedG (ks := [1]) rfl rfl⟩
 | succ q =>
  replace hm := (hst171 _ _ _).symm.trans hm
  try dsimp only at hm
  refine GS.seq ?_
  refine GS.tzM (fun _ => [(0,pA o 0),(4,vI (g : Int)),(5,.bool (decide ((g : Int) < 256)))]) [] ?_
  intro _
  refine GS.seq ?_
  refine GS.cond (t := decide ((g : Int) < 256)) rfl rfl (fun _ => ?_) (fun Q => absb (cnt1 B) Q)
  refine GS.skip ?_
  refine GS.seq ?_
  refine GS.block ?_
  refine GS.seq ?_
  refine GS.tzM (fun _ => [(0,pA o 0),(2,vI (g : Int)),(4,vI (g : Int))]) [] ?_
  intro _
  refine GS.seq ?_
  refine GS.tzM (fun _ => [(0,pA o 0),(2,vI (g : Int)),(3,.int .u32 (IntKind.u32.wrap (g : Int))),(4,vI (g : Int))]) [] ?_
  intro _
  refine GS.seq ?_
  refine GS.seq ?_
  refine GS.tzM (fun _ => [(0,pA o 0),(2,vI (g : Int)),(3,.int .u32 (IntKind.u32.wrap (g : Int))),(4,vI (g : Int)),(9,vI 0)]) [] ?_
  intro _
  refine GS.block ?_
  refine GS.loop ?_
  refine grd_elim hm (fun G hm => ?_)
  refine GS.rekey (env' := [(0,pA o 0),(2,vI (g : Int)),(3,.int .u32 (IntKind.u32.wrap (g : Int))),(4,vI (g : Int)),(9,vI 0)]) (mem' := [(1,.cells o 136 (([.int .u32 a0.once.done.v,.int .i32 a0.once.m.mu.state,.int .u32 a0.once.m.mu.sema] : List Value) ++ (aU32 n ++ (([vI a0.calls.v] : List Value)))))]) [0,2,3,4,9] [(1,1)] (by kernel_rfl) (by kernel_rfl) rfl ?_
  refine loopC_elim hm (fun st156 fn157 hst158 hfn159 hm => ?_)
  refine GS.loopInv (ι := Nat × Int × Nat) (I := fun ⟨p,l,h⟩ => ((8) - (h : Int) : Int).toNat = p ∧ loopC st156 fn157 p h l = some y) (μ := fun ⟨p,l,h⟩ => p) (E := fun ⟨p,l,h⟩ => [(0,pA o 0),(2,vI (g : Int)),(3,.int .u32 l),(4,vI (g : Int)),(9,vI (h : Int))]) (M := fun ⟨p,l,h⟩ => [(1,.cells o 136 (([.int .u32 a0.once.done.v,.int .i32 a0.once.m.mu.state,.int .u32 a0.once.m.mu.sema] : List Value) ++ (aU32 n ++ (([vI a0.calls.v] : List Value)))))]) ?_ ⟨(Int.toNat (8 - (0 : Int))),(IntKind.u32.wrap (g : Int)),0⟩ ⟨rfl,hm⟩
  rintro ⟨p,l,h⟩ ⟨r,hm⟩ C
  cases p with
  | zero =>
   replace hm := (hfn159 _ _).symm.trans hm
   try dsimp only at hm
   refine GS.seq ?_
   refine GS.tzM (fun _ => [(0,pA o 0),(2,vI (g : Int)),(3,.int .u32 l),(4,vI (g : Int)),(9,vI (h : Int)),(10,.bool (decide ((h : Int) < 8)))]) [] ?_
   intro _
   refine GS.seq ?_
   refine GS.cond (t := decide ((h : Int) < 8)) rfl rfl (fun T => absb T (cnt0 r)) (fun _ => ?_)
   refine GS.exit rfl ?_
   refine grd_elim hm (fun U hm => ?_)
   refine grd_elim hm (fun H hm => ?_)
   refine GS.tg (fun _ => [(0,pA o 0),(4,vI (g : Int))]) (fun _ => [(1,.cells o 136 (splice (([.int .u32 a0.once.done.v,.int .i32 a0.once.m.mu.state,.int .u32 a0.once.m.mu.sema] : List Value) ++ (aU32 n ++ (([vI a0.calls.v] : List Value)))) (3 + g * 1) ((.int .u32 l) : Value).cells.toList))]) [(5,{ act := .arr g }),(6,{ act := .storeC,key := some 1 })] (fun _ => [((g : Int) : Int) = (g : Int),g < 256,o = o,((.int .u32 l) : Value).cells.toList.length = 1,3 + g * 1 + 1 ≤ (([.int .u32 a0.once.done.v,.int .i32 a0.once.m.mu.state,.int .u32 a0.once.m.mu.sema] : List Value) ++ (aU32 n ++ (([vI a0.calls.v] : List Value)))).length,oC (.int .u32 l)]) (fun _ => ⟨rfl,U,rfl,rfl,(by have hh := H; first | simp [aU32_len]; omega),rfl,trivial⟩) ?_
   intro _
   refine GS.conv (mem' := [(1,.cells o 136 (([.int .u32 a0.once.done.v,.int .i32 a0.once.m.mu.state,.int .u32 a0.once.m.mu.sema] : List Value) ++ (aU32 (n.set g l) ++ (([vI a0.calls.v] : List Value)))))]) rfl (congrArg (fun rr : List Value => ([(1,.cells o 136 rr)] : List (Nat × Ent))) (show (splice (([.int .u32 a0.once.done.v,.int .i32 a0.once.m.mu.state,.int .u32 a0.once.m.mu.sema] : List Value) ++ (aU32 n ++ (([vI a0.calls.v] : List Value)))) (3 + g * 1) ((.int .u32 l) : Value).cells.toList : List Value) = ([.int .u32 a0.once.done.v,.int .i32 a0.once.m.mu.state,.int .u32 a0.once.m.mu.sema] : List Value) ++ (aU32 (n.set g l) ++ (([vI a0.calls.v] : List Value))) from splice_aU322 (pre := ([.int .u32 a0.once.done.v,.int .i32 a0.once.m.mu.state,.int .u32 a0.once.m.mu.sema] : List Value)) (m := 3) rfl H (by omega))) ?_
   refine GS.inBlock ?_
   refine GS.tgM (fun _ => [(0,pA o 0),(4,vI ((g + 1 : Nat) : Int))]) [(0,{ sp := some (vI ((g + 1 : Nat) : Int)) })] (fun _ => [((vI (IntKind.i64.wrap ((g : Int) + 1))) : Value) = vI ((g + 1 : Nat) : Int)]) (fun _ => ⟨natwB (cnt1 B) K,trivial⟩) ?_
   intro _
   refine GS.inLoop ?_
   refine GS.rekey (env' := [(0,pA o 0),(4,vI ((g + 1 : Nat) : Int))]) (mem' := [(1,.cells o 136 (([.int .u32 a0.once.done.v,.int .i32 a0.once.m.mu.state,.int .u32 a0.once.m.mu.sema] : List Value) ++ (aU32 (n.set g l) ++ (([vI a0.calls.v] : List Value)))))]) [0,4] [(1,1)] (by kernel_rfl) (by kernel_rfl) rfl ?_
   exact J ⟨q,g + 1,(n.set g l)⟩ ⟨cntN B,hm⟩ (Nat.lt_succ_self _)
  | succ p =>
   replace hm := (hst158 _ _ _).symm.trans hm
   try dsimp only at hm
   refine GS.seq ?_
   refine GS.tzM (fun _ => [(0,pA o 0),(2,vI (g : Int)),(3,.int .u32 l),(4,vI (g : Int)),(9,vI (h : Int)),(10,.bool (decide ((h : Int) < 8)))]) [] ?_
   intro _
   refine GS.seq ?_
   refine GS.cond (t := decide ((h : Int) < 8)) rfl rfl (fun _ => ?_) (fun V => absb (cnt1 r) V)
   refine GS.skip ?_
   refine GS.seq ?_
   refine GS.block ?_
   refine GS.seq ?_
   refine GS.tzM (fun _ => [(0,pA o 0),(2,vI (g : Int)),(3,.int .u32 l),(4,vI (g : Int)),(9,vI (h : Int)),(13,.bool ((iand .u32 l 1) == 1))]) [] ?_
   intro _
   refine GS.cond (t := (iand .u32 l 1) == 1) rfl rfl (fun D => ?_) (fun D => ?_)
   ·replace hm := br_t D hm
    refine GS.tzM (fun _ => [(0,pA o 0),(2,vI (g : Int)),(3,.int .u32 (ixor .u32 (Int.fdiv l (2 ^ 1)) 2197175160)),(4,vI (g : Int)),(9,vI (h : Int))]) [] ?_
    intro _
    refine GS.inBlock ?_
    refine GS.tgM (fun _ => [(0,pA o 0),(2,vI (g : Int)),(3,.int .u32 (ixor .u32 (Int.fdiv l (2 ^ 1)) 2197175160)),(4,vI (g : Int)),(9,vI ((h + 1 : Nat) : Int))]) [(0,{ sp := some (vI ((h + 1 : Nat) : Int)) })] (fun _ => [((vI (IntKind.i64.wrap ((h : Int) + 1))) : Value) = vI ((h + 1 : Nat) : Int)]) (fun _ => ⟨natwB (cnt1 r) G,trivial⟩) ?_
    intro _
    refine GS.inLoop ?_
    refine GS.rekey (env' := [(0,pA o 0),(2,vI (g : Int)),(3,.int .u32 (ixor .u32 (Int.fdiv l (2 ^ 1)) 2197175160)),(4,vI (g : Int)),(9,vI ((h + 1 : Nat) : Int))]) (mem' := [(1,.cells o 136 (([.int .u32 a0.once.done.v,.int .i32 a0.once.m.mu.state,.int .u32 a0.once.m.mu.sema] : List Value) ++ (aU32 n ++ (([vI a0.calls.v] : List Value)))))]) [0,2,3,4,9] [(1,1)] (by kernel_rfl) (by kernel_rfl) rfl ?_
    exact C ⟨p,(ixor .u32 (Int.fdiv l (2 ^ 1)) 2197175160),h + 1⟩ ⟨cntN r,hm⟩ (Nat.lt_succ_self _)
   ·replace hm := br_f D hm
    refine GS.tzM (fun _ => [(0,pA o 0),(2,vI (g : Int)),(3,.int .u32 (Int.fdiv l (2 ^ 1))),(4,vI (g : Int)),(9,vI (h : Int))]) [] ?_
    intro _
    refine GS.inBlock ?_
    refine GS.tgM (fun _ => [(0,pA o 0),(2,vI (g : Int)),(3,.int .u32 (Int.fdiv l (2 ^ 1))),(4,vI (g : Int)),(9,vI ((h + 1 : Nat) : Int))]) [(0,{ sp := some (vI ((h + 1 : Nat) : Int)) })] (fun _ => [((vI (IntKind.i64.wrap ((h : Int) + 1))) : Value) = vI ((h + 1 : Nat) : Int)]) (fun _ => ⟨natwB (cnt1 r) G,trivial⟩) ?_
    intro _
    refine GS.inLoop ?_
    refine GS.rekey (env' := [(0,pA o 0),(2,vI (g : Int)),(3,.int .u32 (Int.fdiv l (2 ^ 1))),(4,vI (g : Int)),(9,vI ((h + 1 : Nat) : Int))]) (mem' := [(1,.cells o 136 (([.int .u32 a0.once.done.v,.int .i32 a0.once.m.mu.state,.int .u32 a0.once.m.mu.sema] : List Value) ++ (aU32 n ++ (([vI a0.calls.v] : List Value)))))]) [0,2,3,4,9] [(1,1)] (by kernel_rfl) (by kernel_rfl) rfl ?_
    exact C ⟨p,(Int.fdiv l (2 ^ 1)),h + 1⟩ ⟨cntN r,hm⟩ (Nat.lt_succ_self _)

theorem disable (w : World) : (callFunc 83 #[]).run Try.prog w = .ok (.value (.tuple #[])) w := run_call_mark0 Try.func83 (by kernel_rfl) (by kernel_rfl) (by kernel_rfl) .disable (by kernel_rfl) w
theorem enable (w : World) : (callFunc 85 #[]).run Try.prog w = .ok (.value (.tuple #[])) w := run_call_mark0 Try.func85 (by kernel_rfl) (by kernel_rfl) (by kernel_rfl) .enable (by kernel_rfl) w
theorem acquire (a : Addr) (w : World) : (callFunc 86 #[.pointer (some a)]).run Try.prog w = .ok (.value (.tuple #[])) w := run_call_marked Try.func86 (by kernel_rfl) (by kernel_rfl) (by kernel_rfl) .acquire (by kernel_rfl) a w
theorem releaseMerge (a : Addr) (w : World) : (callFunc 88 #[.pointer (some a)]).run Try.prog w = .ok (.value (.tuple #[])) w := run_call_marked Try.func88 (by kernel_rfl) (by kernel_rfl) (by kernel_rfl) .releaseMerge (by kernel_rfl) a w

theorem store_deferred (a : Addr) (x : Value) (u : FrameMode) (w : World) (hc : w.cell? a = some x) (hz : w.frozen? a = false) :
  CallsD Try.prog 76 #[.pointer (some a),.bool true] u w fun e u' w' => u' = u ∧ (e = .returned (.tuple #[]) ∧ w' = w.drew.setCell a (.int .u32 1)) := by
 have hc' : w.drew.cell? a = some x := by go_simp
 have hz' : w.drew.frozen? a = false := by go_simp
 have hst := run_call_store (P := Try.prog) Try.func81 (by kernel_rfl) (by kernel_rfl) (by kernel_rfl) (by kernel_rfl) (k := .u32) (y := 1) hc' hz'
 go_enter_d Try.func76,Try.ntmps76
 go_wp2
 go_region_calls
 all_goals (go_end0; exact ⟨rfl,rfl⟩)

theorem unlock_deferred (a : Addr) (u : FrameMode) (w : World) (hc : w.cell? a = some (.int .i32 1)) (hz : w.frozen? a = false) :
  CallsD Try.prog 75 #[.pointer (some a)] u w fun e u' w' => u' = u ∧ (e = .returned (.tuple #[]) ∧ w' = w.setCell a (.int .i32 0)) := by
 have hd := disable
 have he := enable
 have hr := releaseMerge
 have hadd := run_call_add (P := Try.prog) Try.func89 (by kernel_rfl) (by kernel_rfl) (by kernel_rfl) .i32 (by kernel_rfl) (y := -1) (s := 0) hc hz (by simp [go_sem]; rfl)
 have hcv := run_convert_to_unsafe (P := Try.prog) (src := 162) (dst := 166) Try.underlying162 Try.underlying166 (by kernel_rfl) hc
 go_enter_d Try.func75,Try.ntmps75
 go_wp2
 go_end0
 go_wp2
 go_end0
 exact ⟨rfl,rfl⟩

theorem lock_free (a : Addr) (w : World) (hc : w.cell? a = some (.int .i32 0)) (hz : w.frozen? a = false) :
  Calls Try.prog 74 #[.pointer (some a)] w fun e w' => e = .returned (.tuple #[]) ∧ w' = w.setCell a (.int .i32 1) := by
 have hd := disable
 have he := enable
 have ha := acquire
 have hcas := run_call_cas_hit (P := Try.prog) Try.func84 (by kernel_rfl) (by kernel_rfl) (by kernel_rfl) .i32 (by kernel_rfl) (y := 1) hc hz
 have hc' : (w.setCell a (.int .i32 1)).cell? a = some (.int .i32 1) := World.cell?_setCell_same w a _ hc
 have hcv := run_convert_to_unsafe (P := Try.prog) (src := 162) (dst := 166) Try.underlying162 Try.underlying166 (by kernel_rfl) hc'
 go_enter Try.func74,Try.ntmps74
 go_wp2
 first | go_end0 | (simp only [Exit.inBlock,Exit.then]; refine bodyPost_ret (results_none rfl _ _ _) rfl ?_) | refine bodyPost_ret (results_none rfl _ _ _) rfl ?_
 go_wp2
 go_end0
 exact ⟨rfl,rfl⟩

set_option maxRecDepth 100000 in
set_option maxHeartbeats 1600000 in
/-- '(*sync.Once).doSlow': the lock is taken,the function is called,'done' is stored,the lock is let go. -/
theorem slow_any (b : Nat) (R : World → Prop) (w : World)
  (h0 : w.cell? ⟨b,0,none⟩ = some (.int .u32 0)) (h1 : w.cell? ⟨b,0 + 1,none⟩ = some (.int .i32 0)) (f0 : w.frozen? ⟨b,0,none⟩ = false) (f1 : w.frozen? ⟨b,0 + 1,none⟩ = false)
  (hf : Calls Try.prog 56 #[pA b 0] (w.setCell ⟨b,0 + 1,none⟩ (.int .i32 1)) fun e w' => e = .returned (.tuple #[]) ∧ R w')
  (hR : ∀ w',R w' → w'.cell? ⟨b,0,none⟩ = some (.int .u32 0) ∧ w'.cell? ⟨b,0 + 1,none⟩ = some (.int .i32 1) ∧ w'.frozen? ⟨b,0,none⟩ = false ∧ w'.frozen? ⟨b,0 + 1,none⟩ = false) :
  Calls Try.prog 69 #[pA b 0,.func (.func 56) #[pA b 0] #[]] w fun e w' => e = .returned (.tuple #[]) ∧
   ∃ w1,R w1 ∧ w' = (w1.drew.setCell ⟨b,0,none⟩ (.int .u32 1)).setCell ⟨b,0 + 1,none⟩ (.int .i32 0) := by
 have hl := run_call_load (P := Try.prog) Try.func73 (by kernel_rfl) (by kernel_rfl) (by kernel_rfl) .u32 (by kernel_rfl) (w := w.setCell ⟨b,0 + 1,none⟩ (.int .i32 1)) (a := ⟨b,0,none⟩) (x := 0) ((World.cell?_setCell_other _ ⟨b,0 + 1,none⟩ ⟨b,0,none⟩ _ (by simp)).trans h0)
 have hnot : ∀ (x : Bool) (w : World),(Op.unary .not (.bool x)).run Try.prog w = .ok (.bool (!x)) w := fun _ _ => rfl
 go_enter_defers Try.func69,Try.ntmps69
 go_wp2_with (first | (go_at_call 74; refine (lock_free ⟨b,0 + 1,none⟩ _ h1 f1).mono ?_; rintro e w' ⟨rfl,rfl⟩) | (go_at_call 56; refine hf.mono ?_; rintro e w1 ⟨rfl,hw1⟩; obtain ⟨r0,r1,z0,z1⟩ := hR _ hw1) | (go_at_call 68; go_in))
 go_wp2
 refine leaves_cons (f := 76) (args := #[pA b 0,.bool true]) (by simp) (by simp [go_sem]) ?_
 refine (store_deferred ⟨b,0,none⟩ (.int .u32 0) .returning _ r0 z0).mono ?_
 rintro e u' w'' ⟨rfl,rfl,rfl⟩
 refine leaves_cons (f := 75) (args := #[.pointer (some ⟨b,0 + 1,none⟩)]) (by simp [settle]) (by simp [go_sem]) ?_
 refine (unlock_deferred ⟨b,0 + 1,none⟩ _ _ ?_ (by simp [z1])).mono ?_
 ·refine (World.cell?_setCell_other _ ⟨b,0,none⟩ ⟨b,0 + 1,none⟩ _ (by simp)).trans ?_
  rw [World.cell?_drew]
  exact r1
 rintro e u' w'' ⟨rfl,rfl,rfl⟩
 simp [Leaves,settle,results,Try.results69]
 exact ⟨_,hw1,rfl⟩

set_option maxRecDepth 100000 in
set_option maxHeartbeats 1600000 in
theorem do_first (b : Nat) (R : World → Prop) (w : World)
  (h0 : w.cell? ⟨b,0,none⟩ = some (.int .u32 0)) (h1 : w.cell? ⟨b,0 + 1,none⟩ = some (.int .i32 0)) (f0 : w.frozen? ⟨b,0,none⟩ = false) (f1 : w.frozen? ⟨b,0 + 1,none⟩ = false)
  (hf : Calls Try.prog 56 #[pA b 0] (w.setCell ⟨b,0 + 1,none⟩ (.int .i32 1)) fun e w' => e = .returned (.tuple #[]) ∧ R w')
  (hR : ∀ w',R w' → w'.cell? ⟨b,0,none⟩ = some (.int .u32 0) ∧ w'.cell? ⟨b,0 + 1,none⟩ = some (.int .i32 1) ∧ w'.frozen? ⟨b,0,none⟩ = false ∧ w'.frozen? ⟨b,0 + 1,none⟩ = false) :
  Calls Try.prog 55 #[pA b 0,.func (.func 56) #[pA b 0] #[]] w fun e w' => e = .returned (.tuple #[]) ∧
   ∃ w1,R w1 ∧ w' = (w1.drew.setCell ⟨b,0,none⟩ (.int .u32 1)).setCell ⟨b,0 + 1,none⟩ (.int .i32 0) := by
 have hl := run_call_load (P := Try.prog) Try.func73 (by kernel_rfl) (by kernel_rfl) (by kernel_rfl) .u32 (by kernel_rfl) h0
 have hnot : ∀ (x : Bool) (w : World),(Op.unary .not (.bool x)).run Try.prog w = .ok (.bool (!x)) w := fun _ _ => rfl
 go_enter Try.func55,Try.ntmps55
 go_wp2_with (first | (go_at_call 69; refine (slow_any b R _ h0 h1 f0 f1 hf hR).mono ?_; rintro e w' ⟨rfl,hw1⟩) | (go_at_call 68; go_in))
 go_end0
 exact ⟨rfl,hw1⟩

theorem do_done (a : Addr) (fv : Value) (w : World) (h0 : w.cell? a = some (.int .u32 1)) :
  Calls Try.prog 55 #[.pointer (some a),fv] w fun e w' => e = .returned (.tuple #[]) ∧ w' = w := by
 have hl := run_call_load (P := Try.prog) Try.func73 (by kernel_rfl) (by kernel_rfl) (by kernel_rfl) .u32 (by kernel_rfl) h0
 have hnot : ∀ (x : Bool) (w : World),(Op.unary .not (.bool x)).run Try.prog w = .ok (.bool (!x)) w := fun _ _ => rfl
 go_enter Try.func55,Try.ntmps55
 go_wp2
 go_end0
 exact ⟨rfl,rfl⟩

theorem do_ok (F b : Nat) (d st se : Int) (L : List Int) (c : Int) {y : List Int} (hm : m_once F d st se L c = some y) :
  CallG Try.prog 55 #[pA b 0,.func (.func 56) #[pA b 0] #[]] (fun _ : Unit => .tuple #[]) [.cells b 136 (ecells d st se L c)] [] (fun _ : Unit => [.cells b 136 (ecells 1 0 se y c)]) := by
 intro w hg
 have hE := good_one hg
 rw [m_once] at hm
 refine grd_elim hm (fun hst hm => ?_)
 refine grd_elim hm (fun hL hm => ?_)
 refine br_elim hm (fun hd hm => ?_) (fun hd hm => ?_)
 ·have hd := beq_iff_eq.1 hd
  have hy := Option.some.inj hm
  subst hy hd hst
  exact (do_done ⟨b,0,none⟩ _ w (cells_cell hE 0)).mono fun e w' ⟨he,hw⟩ => ⟨(),he,by subst hw; exact turns_cells (Keep.refl _ _) hE⟩
 ·refine grd_elim hm (fun W hm => ?_)
  refine bnd_elim hm (fun z hz hm => ?_)
  refine grd_elim hm (fun hq hm => ?_)
  have hy := Option.some.inj hm
  subst hy W hst
  obtain ⟨q1,q2,q3,q4,q5⟩ := hq
  have s1 := cells_set hE 1 (.int .i32 1)
  have e1 : (ecells 0 0 se L c).set 1 (.int .i32 1) = ecells 0 1 se L c := rfl
  rw [e1] at s1
  have hgood : GoodG [.cells b 136 (ecells 0 1 se L c)] [] (w.setCell ⟨b,1,none⟩ (.int .i32 1)) := by
   refine ⟨fun e he => by rw [List.mem_singleton.1 he]; exact s1.1,fun e he => (by cases he),fun i j e e' hne hi hj => ?_,fun e _ e' he' => (by cases he')⟩
   have h1 := (List.getElem?_eq_some_iff.1 hi).1
   have h2 := (List.getElem?_eq_some_iff.1 hj).1
   simp at h1 h2
   omega
  have hmake := w___digest_Engine__make F b (S_digest_Engine.mk (S_sync_Once.mk S_sync_noCopy.mk (S_atomic_Bool.mk S_atomic_noCopy.mk 0) (S_sync_Mutex'.mk S_sync_noCopy.mk (S_sync_Mutex.mk 1 se))) L (S_atomic_Int64.mk S_atomic_noCopy.mk S_atomic_align64.mk c)) hz (w.setCell ⟨b,1,none⟩ (.int .i32 1)) hgood
  have hf : Calls Try.prog 56 #[pA b 0] (w.setCell ⟨b,0 + 1,none⟩ (.int .i32 1)) fun e w' => e = .returned (.tuple #[]) ∧ (Keep (fun k => k = b) w w' ∧ (Ent.cells b 136 (ecells 0 1 se z.table c)).ok w') := by
   refine hmake.mono fun e w' ⟨_,he,ht⟩ => ⟨he,?_,?_⟩
   ·refine keep_tr s1.2 (ht.keep.mono fun k _ ⟨e0,h0,hk⟩ => ?_)
    rw [List.mem_singleton.1 h0] at hk
    exact hk
   ·have := ht.ok _ (List.mem_singleton.2 rfl)
    rw [q1,q2,q3,q4] at this
    exact this
  refine (do_first b _ w (cells_cell hE 0) (cells_cell hE 1) (cells_frozen hE (i := 0) (by rw [ecells_len hL]; omega)) (cells_frozen hE (i := 1) (by rw [ecells_len hL]; omega)) hf (fun w' ⟨_,hok⟩ => ⟨cells_cell hok 0,cells_cell hok 1,cells_frozen hok (i := 0) (by rw [ecells_len q5]; omega),cells_frozen hok (i := 1) (by rw [ecells_len q5]; omega)⟩)).mono fun e w' ⟨he,w1,⟨hk,hok⟩,hw⟩ => ⟨(),he,?_⟩
  subst hw
  have t1 := cells_set (cells_drew hok) 0 (.int .u32 1)
  have t2 := cells_set t1.1 1 (.int .i32 0)
  exact turns_cells (keep_tr hk (keep_tr (keep_drew _ w1) (keep_tr t1.2 t2.2))) t2.1

end Go.Proofs.Ytjnbkhnebmlilaa
