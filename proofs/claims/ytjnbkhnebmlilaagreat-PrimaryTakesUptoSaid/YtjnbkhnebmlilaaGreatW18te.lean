/-
  CHAPTER 18t: the functions do what their models say (5).
-/
import Derived.Test.YtjnbkhnebmlilaaGreatE18t
set_option linter.unusedVariables false
set_option linter.unusedSimpArgs false
set_option maxRecDepth 100000
set_option maxHeartbeats 8000000
namespace Go.Proofs.YtjnbkhnebmlilaaGreat
open Go Go.RowKit Sx

theorem w___primary_Machine__Idle (F : Nat) (s : Nat) (c : Option Addr) (m : Nat) (d : Option Addr) (n : Nat) (a : Option Addr) (i : Nat) (b : Option Addr) (j : Nat) (o : Int) (k : Option Addr) (l : Nat) (e : Nat) (f : Option Addr) (p : Nat) (g : Option Addr) (q : Nat) (h : Option Addr) (r : Nat) {y : Unit} (hm : m___primary_Machine__Idle F o = some y) : CallG Tryz.prog 20 #[pA s 0] (X := Unit) (fun (_ : Unit) => .bool false) [] [.rd c 1 [[vI 1]],.rd d 7 [(kc19)],.rd a 5 [(kc24)],.rd b 4 [(kc26 o)],.rd f 1 [[.int .u8 120]],.rd g 1 [[.int .u8 120]],.rd h 1 [[vI 1]],.rd (some ⟨e,0,none⟩) 61 [(kc22 f p g q h r)],.rd (some ⟨s,0,none⟩) 17 [(kc29 c m d n a i b j k l e)]] (fun (_ : Unit) => []) := by
  intro w hg
  rw [m___primary_Machine__Idle] at hm
  refine GS.start (S := mayT [] [.rd c 1 [[vI 1]],.rd d 7 [(kc19)],.rd a 5 [(kc24)],.rd b 4 [(kc26 o)],.rd f 1 [[.int .u8 120]],.rd g 1 [[.int .u8 120]],.rd h 1 [[vI 1]],.rd (some ⟨e,0,none⟩) 61 [(kc22 f p g q h r)],.rd (some ⟨s,0,none⟩) 17 [(kc29 c m d n a i b j k l e)]]) (mem := [(1,.rd c 1 [[vI 1]]),(2,.rd d 7 [(kc19)]),(3,.rd a 5 [(kc24)]),(4,.rd b 4 [(kc26 o)]),(5,.rd f 1 [[.int .u8 120]]),(6,.rd g 1 [[.int .u8 120]]),(7,.rd h 1 [[vI 1]]),(8,.rd (some ⟨e,0,none⟩) 61 [(kc22 f p g q h r)]),(9,.rd (some ⟨s,0,none⟩) 17 [(kc29 c m d n a i b j k l e)])]) Tryz.func20 rfl Tryz.ntmps20 (Nat.le_of_ble_eq_true rfl) (hg.start rfl) ?_
  refine GS.conv (env' := [(0,pA s 0)]) rfl rfl ?_
  refine GS.seq ?_
  refine GS.tzM (fun _ => [(0,pA s 0)]) [] ?_
  intro _
  refine GS.seq ?_
  refine GS.tg (fun _ => [(2,.bool false)]) (fun _ => []) [(6,{ act := .load 9 0 16 [vI 1,vI 0,vI 3,vI 0,vI 9,.slice c 1 m,vI 3,vI 0,vI 0,.slice d 1 n,.slice a 1 i,.slice b 1 j,.slice k 0 l,pA e 0,.bool false,vI 0,.bool true] }),(12,{ act := .load 9 0 13 [vI 1,vI 0,vI 3,vI 0,vI 9,.slice c 1 m,vI 3,vI 0,vI 0,.slice d 1 n,.slice a 1 i,.slice b 1 j,.slice k 0 l,pA e 0,.bool false,vI 0,.bool true] })] (fun _ => [s = blk (some ⟨s,0,none⟩),16 = offs (some ⟨s,0,none⟩) + (0 * 17 + 16),([(kc29 c m d n a i b j k l e)] : List (List Value))[0]? = some [vI 1,vI 0,vI 3,vI 0,vI 9,.slice c 1 m,vI 3,vI 0,vI 0,.slice d 1 n,.slice a 1 i,.slice b 1 j,.slice k 0 l,pA e 0,.bool false,vI 0,.bool true],s = blk (some ⟨s,0,none⟩),13 = offs (some ⟨s,0,none⟩) + (0 * 17 + 13),([(kc29 c m d n a i b j k l e)] : List (List Value))[0]? = some [vI 1,vI 0,vI 3,vI 0,vI 9,.slice c 1 m,vI 3,vI 0,vI 0,.slice d 1 n,.slice a 1 i,.slice b 1 j,.slice k 0 l,pA e 0,.bool false,vI 0,.bool true]]) (fun _ => ⟨rfl,rfl,rfl,rfl,rfl,rfl,trivial⟩) ?_
  intro _
  have hy := Option.some.inj hm
  subst hy
  refine GS.ret (fn := Tryz.f20) [0] [.bool false] [] rfl Tryz.func20 (by kernel_rfl) trivial (fun w' hs => ?_)
  exact ⟨(),rfl,hs.turnedG (ks := []) rfl rfl⟩

theorem w_slices_Index___int_int__2 (F : Nat) (a : Option Addr) (b : Nat) {y : Unit} (hm : m_slices_Index___int_int__2 F = some y) : CallG Tryz.prog 60 #[.slice a 1 b,vI 1] (X := Unit) (fun (_ : Unit) => vI 0) [] [.rd a 1 [[vI 1]]] (fun (_ : Unit) => []) := by
  intro w hg
  rw [m_slices_Index___int_int__2] at hm
  refine GS.start (S := mayT [] [.rd a 1 [[vI 1]]]) (mem := [(1,.rd a 1 [[vI 1]])]) Tryz.func60 rfl Tryz.ntmps60 (Nat.le_of_ble_eq_true rfl) (hg.start rfl) ?_
  refine GS.conv (env' := [(0,.slice a 1 b),(1,vI 1)]) rfl rfl ?_
  refine GS.seq ?_
  refine GS.tzM (fun _ => [(0,.slice a 1 b),(1,vI 1)]) [] ?_
  intro _
  refine GS.seq ?_
  refine GS.seq ?_
  refine GS.tzM (fun _ => [(0,.slice a 1 b),(1,vI 1),(7,vI 1),(8,vI 0)]) [] ?_
  intro _
  refine GS.block ?_
  refine GS.loop ?_
  refine GS.seq ?_
  refine GS.tzM (fun _ => [(0,.slice a 1 b),(1,vI 1),(7,vI 1),(8,vI 0),(9,.bool true)]) [] ?_
  intro _
  refine GS.seq ?_
  refine GS.cond (t := true) rfl rfl (fun _ => ?_) (fun hf => by cases hf)
  refine GS.skip ?_
  refine GS.seq ?_
  refine GS.block ?_
  refine GS.seq ?_
  refine GS.tzM (fun _ => [(0,.slice a 1 b),(1,vI 1),(5,vI 0),(7,vI 1),(8,vI 0)]) [] ?_
  intro _
  refine GS.seq ?_
  refine GS.tgM (fun _ => [(0,.slice a 1 b),(1,vI 1),(5,vI 0),(7,vI 1),(8,vI 0),(16,.bool true)]) [(3,{ act := .idx 1 0 }),(4,{ act := .load 1 0 0 [vI 1] })] (fun _ => [a = a,1 = ([[vI 1]] : List (List Value)).length,(0 : Int) = (0 : Int),0 < 1,blk a = blk a,offs a + 0 * 1 = offs a + (0 * 1 + 0),([[vI 1]] : List (List Value))[0]? = some [vI 1]]) (fun _ => ⟨rfl,rfl,rfl,(Nat.le_of_ble_eq_true rfl),rfl,rfl,rfl,trivial⟩) ?_
  intro _
  refine GS.cond (t := true) rfl rfl (fun _ => ?_) (fun hf => by cases hf)
  refine GS.seq ?_
  refine GS.tz (fun _ => [(4,vI 0)]) (fun _ => []) [] ?_
  intro _
  have hy := Option.some.inj hm
  subst hy
  refine GS.ret (fn := Tryz.f60) [0] [vI 0] [] rfl Tryz.func60 (by kernel_rfl) trivial (fun w' hs => ?_)
  exact ⟨(),rfl,hs.turnedG (ks := []) rfl rfl⟩

theorem w_slices_Delete___int_int_ (F : Nat) (c : Option Addr) (b : Nat) (d : 1 ≤ b) {y : Unit} (hm : m_slices_Delete___int_int_ F = some y) : CallG Tryz.prog 68 #[.slice c 1 b,vI 0,vI 1] (X := Unit) (fun (_ : Unit) => .slice c 0 b) [.osl c b 3 1 [[vI 1]]] [] (fun (_ : Unit) => [.osl c b 3 1 []]) := by
  intro w hg
  rw [m_slices_Delete___int_int_] at hm
  refine GS.start (S := mayT [.osl c b 3 1 [[vI 1]]] []) (mem := [(1,.osl c b 3 1 [[vI 1]])]) Tryz.func68 rfl Tryz.ntmps68 (Nat.le_of_ble_eq_true rfl) (hg.start rfl) ?_
  refine GS.conv (env' := [(0,.slice c 1 b),(1,vI 0),(2,vI 1)]) rfl rfl ?_
  refine GS.seq ?_
  refine GS.tzM (fun _ => [(0,.slice c 1 b),(1,vI 0),(2,vI 1)]) [] ?_
  intro _
  refine GS.seq ?_
  refine GS.tgM (fun _ => [(0,.slice c 1 b),(1,vI 0),(2,vI 1)]) [(5,{ act := .cut 0 1 1,sp := some (.slice (cutOb c 0 1 1) 1 1) })] (fun _ => [0 = (0 : Int),1 = (1 : Int),1 = (1 : Int),0 ≤ 1,1 ≤ 1,1 ≤ b,(some (Operand.tmp 10) : Option Operand) = none → (some (Operand.tmp 12) : Option Operand) = none,((.slice (if 1 = 0 then c else (c).map (fun a => a.add (0 * 1))) (1 - 0) (1 - 0)) : Value) = .slice (cutOb c 0 1 1) 1 1]) (fun _ => ⟨rfl,rfl,rfl,(Nat.le_of_ble_eq_true rfl),(Nat.le_of_ble_eq_true rfl),d,(by intro h; first | rfl | cases h),rfl,trivial⟩) ?_
  intro _
  refine GS.seq ?_
  refine GS.seq ?_
  refine GS.tzM (fun _ => [(0,.slice c 1 b),(1,vI 0),(2,vI 1),(16,.bool false)]) [] ?_
  intro _
  refine GS.cond (t := false) rfl rfl (fun hf => by cases hf) (fun _ => ?_)
  refine GS.skip ?_
  refine GS.seq ?_
  refine GS.tzM (fun _ => [(0,.slice c 1 b),(1,vI 0),(2,vI 1),(7,vI 1)]) [] ?_
  intro _
  refine GS.seq ?_
  refine GS.region (env' := fun e => [(0,.slice c 0 b),(7,vI 1)]) (mem' := fun e => [(1,.osl c b 3 1 (([[vI 1]] : List (List Value)).take 0 ++ ([[vI 1]] : List (List Value)).drop 1))]) (RunsTo.mkd [(2,{ act := .cut 0 0 b,sp := some (.slice c 0 b) }),(5,{ act := .cut 1 1 b,sp := some (.slice (cutOb c 1 b 1) 0 (b - 1)) }),(6,{ act := .appSelf 0 1 b,key := some 1,sp := some (.slice c 0 b) })] [0,7] [1] (fun e => [0 = 0,0 = (0 : Int),b = b,0 ≤ 0,0 ≤ b,b ≤ b,(some (Operand.tmp 21) : Option Operand) = none → (none : Option Operand) = none,(.slice (if b = 0 then c else (c).map (fun a => a.add (0 * 1))) (0 - 0) (b - 0) : Value) = .slice c 0 b,1 = (1 : Int),1 = 1,b = b,1 ≤ 1,1 ≤ b,b ≤ b,(none : Option Operand) = none → (none : Option Operand) = none,((.slice (if b = 1 then c else (c).map (fun a => a.add (1 * 1))) (1 - 1) (b - 1)) : Value) = .slice (cutOb c 1 b 1) 0 (b - 1),c = c,b = b,0 = 0,0 ≤ ([[vI 1]] : List (List Value)).length,1 ≤ ([[vI 1]] : List (List Value)).length,([[vI 1]] : List (List Value)).length ≤ b,(cutOb c 1 b 1) = cutOb c 1 b 1,0 = ([[vI 1]] : List (List Value)).length - 1,(0 + (([[vI 1]] : List (List Value)).length - 1)) * (8 + 1) ≤ 70368744177664,([[vI 1]] : List (List Value)).flatten.all Value.oneCell' = true,0 + (([[vI 1]] : List (List Value)).length - 1) ≤ b,((.slice c (0 + (([[vI 1]] : List (List Value)).length - 1)) b) : Value) = .slice c 0 b]) (by kernel_rfl) (by kernel_rfl) (fun e => by kernel_rfl) (fun e => ⟨rfl,rfl,rfl,(Nat.le_of_ble_eq_true rfl),(Nat.le_trans (Nat.le_of_ble_eq_true rfl : 0 ≤ 1) d),(Nat.le_refl _),(by intro h; first | rfl | cases h),cut_zero _ _ _ _,rfl,rfl,rfl,(Nat.le_of_ble_eq_true rfl),d,(Nat.le_refl _),(by intro h; first | rfl | cases h),rfl,rfl,rfl,rfl,(Nat.le_of_ble_eq_true rfl),(Nat.le_of_ble_eq_true rfl),d,rfl,rfl,(show 0 * (8 + 1) ≤ 70368744177664 by decide),rfl,(show 0 ≤ b from (Nat.le_trans (Nat.le_of_ble_eq_true rfl : 0 ≤ 1) d)),rfl,trivial⟩)) ?_
  intro e
  refine GS.conv (mem' := [(1,.osl c b 3 1 [])]) rfl (congrArg (fun rr : List (List Value) => ([(1,.osl c b 3 1 rr)] : List (Nat × Ent))) (show ([[vI 1]] : List (List Value)).take 0 ++ ([[vI 1]] : List (List Value)).drop 1 = ([] : List (List Value)) from rfl)) ?_
  refine GS.seq ?_
  refine GS.tgM (fun _ => [(0,.slice c 0 b)]) [(4,{ act := .cut 0 1 b,sp := some (.slice (cutOb c 0 b 1) 1 (b - 0)) }),(5,{ act := .clearS 0 b,key := some 1 })] (fun _ => [0 = (0 : Int),1 = (1 : Int),b = b,0 ≤ 1,1 ≤ b,b ≤ b,(some (Operand.tmp 30) : Option Operand) = none → (none : Option Operand) = none,((.slice (if b = 0 then c else (c).map (fun a => a.add (0 * 1))) (1 - 0) (b - 0)) : Value) = .slice (cutOb c 0 b 1) 1 (b - 0),cutOb c 0 b 1 = cutOb c 0 b 1,([] : List (List Value)).length ≤ 0,0 + (1) ≤ b,b ≤ b]) (fun _ => ⟨rfl,rfl,rfl,(Nat.le_of_ble_eq_true rfl),d,(Nat.le_refl _),(by intro h; first | rfl | cases h),rfl,rfl,(Nat.le_of_ble_eq_true rfl),(show 1 ≤ b from d),(Nat.le_refl _),trivial⟩) ?_
  intro _
  refine GS.seq ?_
  refine GS.tzM (fun _ => [(6,.slice c 0 b)]) [] ?_
  intro _
  have hy := Option.some.inj hm
  subst hy
  refine GS.ret (fn := Tryz.f68) [0] [.slice c 0 b] [] rfl Tryz.func68 (by kernel_rfl) trivial (fun w' hs => ?_)
  exact ⟨(),rfl,hs.turnedG (ks := [1]) rfl rfl⟩

theorem w___primary_Machine__to_2 (F : Nat) (t : Nat) (c : Option Addr) (m : Nat) (d : Option Addr) (n : Nat) (a : Option Addr) (f : Nat) (b : Option Addr) (g : Nat) (p : Int) (h : Option Addr) (i : Nat) (e : Nat) (j : Option Addr) (q : Nat) (k : Option Addr) (r : Nat) (l : Option Addr) (s : Nat) {y : Unit} (hm : m___primary_Machine__to_2 F p = some y) : CallG Tryz.prog 70 #[pA t 0,vI 0,.agg ((kc42)).toArray] (X := Unit) (fun (_ : Unit) => .agg ((kc44)).toArray) [] [.rd c 1 [[vI 1]],.rd d 7 [(kc19)],.rd a 5 [(kc24)],.rd b 4 [(kc26 p)],.rd j 1 [[.int .u8 120]],.rd k 1 [[.int .u8 120]],.rd l 1 [],.rd (some ⟨e,0,none⟩) 61 [(kc39 j q k r l s)],.rd (some ⟨t,0,none⟩) 17 [(kc29 c m d n a f b g h i e)]] (fun (_ : Unit) => []) := by
  intro w hg
  rw [m___primary_Machine__to_2] at hm
  refine GS.start (S := mayT [] [.rd c 1 [[vI 1]],.rd d 7 [(kc19)],.rd a 5 [(kc24)],.rd b 4 [(kc26 p)],.rd j 1 [[.int .u8 120]],.rd k 1 [[.int .u8 120]],.rd l 1 [],.rd (some ⟨e,0,none⟩) 61 [(kc39 j q k r l s)],.rd (some ⟨t,0,none⟩) 17 [(kc29 c m d n a f b g h i e)]]) (mem := [(1,.rd c 1 [[vI 1]]),(2,.rd d 7 [(kc19)]),(3,.rd a 5 [(kc24)]),(4,.rd b 4 [(kc26 p)]),(5,.rd j 1 [[.int .u8 120]]),(6,.rd k 1 [[.int .u8 120]]),(7,.rd l 1 []),(8,.rd (some ⟨e,0,none⟩) 61 [(kc39 j q k r l s)]),(9,.rd (some ⟨t,0,none⟩) 17 [(kc29 c m d n a f b g h i e)])]) Tryz.func70 rfl Tryz.ntmps70 (Nat.le_of_ble_eq_true rfl) (hg.start rfl) ?_
  refine GS.conv (env' := [(0,pA t 0),(1,vI 0),(2,.agg ((kc42)).toArray)]) rfl rfl ?_
  refine GS.seq ?_
  refine GS.tz (fun o => [(0,pA t 0),(1,vI 0),(5,pA ((o 0).x) 0),(6,pA ((o 1).x) 0)]) (fun o => [(1,.rd c 1 [[vI 1]]),(2,.rd d 7 [(kc19)]),(3,.rd a 5 [(kc24)]),(4,.rd b 4 [(kc26 p)]),(5,.rd j 1 [[.int .u8 120]]),(6,.rd k 1 [[.int .u8 120]]),(7,.rd l 1 []),(8,.rd (some ⟨e,0,none⟩) 61 [(kc39 j q k r l s)]),(9,.rd (some ⟨t,0,none⟩) 17 [(kc29 c m d n a f b g h i e)]),(10,.cells ((o 0).x) 65 (kc42)),(11,.cells ((o 1).x) 65 (kc33))]) [(0,{ act := .new .var,key := some 10 }),(1,{ act := .new .var,key := some 11 })] ?_
  intro o
  refine GS.seq ?_
  refine GS.tg (fun _ => [(0,pA t 0),(5,pA ((o 0).x) 0),(6,pA ((o 1).x) 0)]) (fun _ => [(1,.rd c 1 [[vI 1]]),(2,.rd d 7 [(kc19)]),(3,.rd a 5 [(kc24)]),(4,.rd b 4 [(kc26 p)]),(5,.rd j 1 [[.int .u8 120]]),(6,.rd k 1 [[.int .u8 120]]),(7,.rd l 1 []),(8,.rd (some ⟨e,0,none⟩) 61 [(kc39 j q k r l s)]),(9,.rd (some ⟨t,0,none⟩) 17 [(kc29 c m d n a f b g h i e)]),(10,.cells ((o 0).x) 65 (kc43)),(11,.cells ((o 1).x) 65 (kc33))]) [(3,{ act := .load 9 0 3 [vI 1,vI 0,vI 3,vI 0,vI 9,.slice c 1 m,vI 3,vI 0,vI 0,.slice d 1 n,.slice a 1 f,.slice b 1 g,.slice h 0 i,pA e 0,.bool false,vI 0,.bool true] }),(8,{ act := .store 0 0 [],key := some 10 }),(10,{ act := .store 0 0 [],key := some 10 })] (fun _ => [t = blk (some ⟨t,0,none⟩),3 = offs (some ⟨t,0,none⟩) + (0 * 17 + 3),([(kc29 c m d n a f b g h i e)] : List (List Value))[0]? = some [vI 1,vI 0,vI 3,vI 0,vI 9,.slice c 1 m,vI 3,vI 0,vI 0,.slice d 1 n,.slice a 1 f,.slice b 1 g,.slice h 0 i,pA e 0,.bool false,vI 0,.bool true],(o 0).x = (o 0).x,oC (.agg #[vI 2,vI 0]),(o 0).x = (o 0).x,oC (.agg #[vI 2,vI 0])]) (fun _ => ⟨rfl,rfl,rfl,rfl,rfl,rfl,rfl,trivial⟩) ?_
  intro _
  refine GS.seq ?_
  refine GS.region (env' := fun _ => [(5,pA ((o 0).x) 0),(6,pA ((o 1).x) 0)]) (mem' := fun _ => [(10,.cells ((o 0).x) 65 (kc44)),(11,.cells ((o 1).x) 65 (kc33))]) (RunsTo.mkd [(3,{ act := .load 9 0 4 [vI 1,vI 0,vI 3,vI 0,vI 9,.slice c 1 m,vI 3,vI 0,vI 0,.slice d 1 n,.slice a 1 f,.slice b 1 g,.slice h 0 i,pA e 0,.bool false,vI 0,.bool true] }),(7,{ act := .load 9 0 0 [vI 1,vI 0,vI 3,vI 0,vI 9,.slice c 1 m,vI 3,vI 0,vI 0,.slice d 1 n,.slice a 1 f,.slice b 1 g,.slice h 0 i,pA e 0,.bool false,vI 0,.bool true] }),(11,{ act := .load 9 0 2 [vI 1,vI 0,vI 3,vI 0,vI 9,.slice c 1 m,vI 3,vI 0,vI 0,.slice d 1 n,.slice a 1 f,.slice b 1 g,.slice h 0 i,pA e 0,.bool false,vI 0,.bool true] }),(13,{ act := .store 0 0 [],key := some 10 }),(15,{ act := .store 0 0 [],key := some 10 }),(17,{ act := .store 0 0 [],key := some 10 })] [5,6] [10,11] (fun _ => [t = blk (some ⟨t,0,none⟩),4 = offs (some ⟨t,0,none⟩) + (0 * 17 + 4),([(kc29 c m d n a f b g h i e)] : List (List Value))[0]? = some [vI 1,vI 0,vI 3,vI 0,vI 9,.slice c 1 m,vI 3,vI 0,vI 0,.slice d 1 n,.slice a 1 f,.slice b 1 g,.slice h 0 i,pA e 0,.bool false,vI 0,.bool true],t = blk (some ⟨t,0,none⟩),0 = offs (some ⟨t,0,none⟩) + (0 * 17 + 0),([(kc29 c m d n a f b g h i e)] : List (List Value))[0]? = some [vI 1,vI 0,vI 3,vI 0,vI 9,.slice c 1 m,vI 3,vI 0,vI 0,.slice d 1 n,.slice a 1 f,.slice b 1 g,.slice h 0 i,pA e 0,.bool false,vI 0,.bool true],t = blk (some ⟨t,0,none⟩),2 = offs (some ⟨t,0,none⟩) + (0 * 17 + 2),([(kc29 c m d n a f b g h i e)] : List (List Value))[0]? = some [vI 1,vI 0,vI 3,vI 0,vI 9,.slice c 1 m,vI 3,vI 0,vI 0,.slice d 1 n,.slice a 1 f,.slice b 1 g,.slice h 0 i,pA e 0,.bool false,vI 0,.bool true],(o 0).x = (o 0).x,oC (vI 9),(o 0).x = (o 0).x,oC (.agg #[vI 1,vI 0]),(o 0).x = (o 0).x,oC (vI 3)]) (by kernel_rfl) (by kernel_rfl) (fun _ => by kernel_rfl) (fun _ => ⟨rfl,rfl,rfl,rfl,rfl,rfl,rfl,rfl,rfl,rfl,rfl,rfl,rfl,rfl,rfl,trivial⟩)) ?_
  intro _
  refine GS.seq ?_
  refine GS.tg (fun _ => [(6,pA ((o 1).x) 0)]) (fun _ => [(11,.cells ((o 1).x) 65 (kc44))]) [(0,{ act := .load 10 0 0 [] }),(1,{ act := .store 0 0 [],key := some 11 })] (fun _ => [(o 0).x = (o 0).x,(o 1).x = (o 1).x,oC (.agg ((kc44)).toArray)]) (fun _ => ⟨rfl,rfl,rfl,trivial⟩) ?_
  intro _
  have hy := Option.some.inj hm
  subst hy
  refine GS.ret (fn := Tryz.f70) [11] [.agg ((kc44)).toArray] [(o 1).x = (o 1).x] rfl Tryz.func70 (by kernel_rfl) ⟨rfl,trivial⟩ (fun w' hs => ?_)
  exact ⟨(),rfl,hs.turnedG (ks := []) rfl rfl⟩

theorem w___primary_Machine__answer (F : Nat) (t : Nat) (j : Option Addr) (r : Nat) (k : Option Addr) (s : Nat) (f : Option Addr) (n : Nat) (g : Option Addr) (o : Nat) (l : Int) (p : Option Addr) (q : Nat) (m : Nat) (a : Option Addr) (d : Nat) (b : Option Addr) (h : Nat) (c : Option Addr) (i : Nat) {y : Unit} (hm : m___primary_Machine__answer F l = some y) : CallG Tryz.prog 45 #[pA t 0,.agg ((kc12 a d)).toArray,.agg ((kc41)).toArray] (X := Unit) (fun (_ : Unit) => .agg ((kc45)).toArray) [] [.rd j 1 [[vI 1]],.rd k 7 [(kc19)],.rd f 5 [(kc24)],.rd g 4 [(kc26 l)],.rd a 1 [[.int .u8 120]],.rd b 1 [[.int .u8 120]],.rd c 1 [],.rd (some ⟨m,0,none⟩) 61 [(kc39 a d b h c i)],.rd (some ⟨t,0,none⟩) 17 [(kc29 j r k s f n g o p q m)]] (fun (_ : Unit) => []) := by
  intro w hg
  rw [m___primary_Machine__answer] at hm
  refine GS.start (S := mayT [] [.rd j 1 [[vI 1]],.rd k 7 [(kc19)],.rd f 5 [(kc24)],.rd g 4 [(kc26 l)],.rd a 1 [[.int .u8 120]],.rd b 1 [[.int .u8 120]],.rd c 1 [],.rd (some ⟨m,0,none⟩) 61 [(kc39 a d b h c i)],.rd (some ⟨t,0,none⟩) 17 [(kc29 j r k s f n g o p q m)]]) (mem := [(1,.rd j 1 [[vI 1]]),(2,.rd k 7 [(kc19)]),(3,.rd f 5 [(kc24)]),(4,.rd g 4 [(kc26 l)]),(5,.rd a 1 [[.int .u8 120]]),(6,.rd b 1 [[.int .u8 120]]),(7,.rd c 1 []),(8,.rd (some ⟨m,0,none⟩) 61 [(kc39 a d b h c i)]),(9,.rd (some ⟨t,0,none⟩) 17 [(kc29 j r k s f n g o p q m)])]) Tryz.func45 rfl Tryz.ntmps45 (Nat.le_of_ble_eq_true rfl) (hg.start rfl) ?_
  refine GS.conv (env' := [(0,pA t 0),(1,.agg ((kc12 a d)).toArray),(2,.agg ((kc41)).toArray)]) rfl rfl ?_
  refine GS.seq ?_
  refine GS.tz (fun e => [(0,pA t 0),(4,pA ((e 0).x) 0),(5,pA ((e 1).x) 0),(6,pA ((e 2).x) 0)]) (fun e => [(1,.rd j 1 [[vI 1]]),(2,.rd k 7 [(kc19)]),(3,.rd f 5 [(kc24)]),(4,.rd g 4 [(kc26 l)]),(5,.rd a 1 [[.int .u8 120]]),(6,.rd b 1 [[.int .u8 120]]),(7,.rd c 1 []),(8,.rd (some ⟨m,0,none⟩) 61 [(kc39 a d b h c i)]),(9,.rd (some ⟨t,0,none⟩) 17 [(kc29 j r k s f n g o p q m)]),(10,.cells ((e 0).x) 65 (kc12 a d)),(11,.cells ((e 1).x) 65 (kc41)),(12,.cells ((e 2).x) 65 (kc33))]) [(0,{ act := .new .var,key := some 10 }),(1,{ act := .new .var,key := some 11 }),(2,{ act := .new .var,key := some 12 })] ?_
  intro e
  refine GS.seq ?_
  refine GS.region (env' := fun _ => [(0,pA t 0),(4,pA ((e 0).x) 0),(5,pA ((e 1).x) 0),(6,pA ((e 2).x) 0)]) (mem' := fun _ => [(1,.rd j 1 [[vI 1]]),(2,.rd k 7 [(kc19)]),(3,.rd f 5 [(kc24)]),(4,.rd g 4 [(kc26 l)]),(5,.rd a 1 [[.int .u8 120]]),(6,.rd b 1 [[.int .u8 120]]),(7,.rd c 1 []),(8,.rd (some ⟨m,0,none⟩) 61 [(kc39 a d b h c i)]),(9,.rd (some ⟨t,0,none⟩) 17 [(kc29 j r k s f n g o p q m)]),(10,.cells ((e 0).x) 65 (kc12 a d)),(11,.cells ((e 1).x) 65 (kc42)),(12,.cells ((e 2).x) 65 (kc33))]) (RunsTo.mkd [(1,{ act := .load 10 0 0 [] }),(3,{ act := .load 10 0 0 [] }),(5,{ act := .store 0 0 [],key := some 11 }),(7,{ act := .store 0 0 [],key := some 11 }),(9,{ act := .store 0 0 [],key := some 11 })] [0,4,5,6] [1,2,3,4,5,6,7,8,9,10,11,12] (fun _ => [(e 0).x = (e 0).x,(e 0).x = (e 0).x,(e 1).x = (e 1).x,oC (vI 31),(e 1).x = (e 1).x,oC (vI 5),(e 1).x = (e 1).x,oC (vI 1)]) (by kernel_rfl) (by kernel_rfl) (fun _ => by kernel_rfl) (fun _ => ⟨rfl,rfl,rfl,rfl,rfl,rfl,rfl,rfl,trivial⟩)) ?_
  intro _
  refine GS.seq ?_
  refine bnd_elim hm (fun y4 e5 hm => ?_)
  refine GS.tg (fun _ => [(4,pA ((e 0).x) 0),(5,pA ((e 1).x) 0),(6,pA ((e 2).x) 0)]) (fun _ => [(5,.rd a 1 [[.int .u8 120]]),(10,.cells ((e 0).x) 65 (kc12 a d)),(11,.cells ((e 1).x) 65 (kc44)),(12,.cells ((e 2).x) 65 (kc33))]) [(1,{ act := .load 11 0 0 [] }),(2,{ act := .call [1,2,3,4,5,6,7,8,9] (.agg ((kc44)).toArray) }),(3,{ act := .store 0 0 [],key := some 11 })] (fun _ => [(e 1).x = (e 1).x,CallOK Tryz.prog 70 #[pA t 0,vI 0,.agg ((kc42)).toArray] (.agg ((kc44)).toArray) [some (.rd j 1 [[vI 1]]),some (.rd k 7 [(kc19)]),some (.rd f 5 [(kc24)]),some (.rd g 4 [(kc26 l)]),some (.rd a 1 [[.int .u8 120]]),some (.rd b 1 [[.int .u8 120]]),some (.rd c 1 []),some (.rd (some ⟨m,0,none⟩) 61 [(kc39 a d b h c i)]),some (.rd (some ⟨t,0,none⟩) 17 [(kc29 j r k s f n g o p q m)])],(e 1).x = (e 1).x,oC (.agg ((kc44)).toArray)]) (fun _ => ⟨rfl,(by have h1 := w___primary_Machine__to_2 F t j r k s f n g o l p q m a d b h c i e5; exact h1.ok ⟨(.inl ⟨.rd j 1 [[vI 1]],.head _,Cov.refl _⟩),(.inl ⟨.rd k 7 [(kc19)],(.tail _ (.head _)),Cov.refl _⟩),(.inl ⟨.rd f 5 [(kc24)],(.tail _ (.tail _ (.head _))),Cov.refl _⟩),(.inl ⟨.rd g 4 [(kc26 l)],(.tail _ (.tail _ (.tail _ (.head _)))),Cov.refl _⟩),(.inl ⟨.rd a 1 [[.int .u8 120]],(.tail _ (.tail _ (.tail _ (.tail _ (.head _))))),Cov.refl _⟩),(.inl ⟨.rd b 1 [[.int .u8 120]],(.tail _ (.tail _ (.tail _ (.tail _ (.tail _ (.head _)))))),Cov.refl _⟩),(.inl ⟨.rd c 1 [],(.tail _ (.tail _ (.tail _ (.tail _ (.tail _ (.tail _ (.head _))))))),Cov.refl _⟩),(.inl ⟨.rd (some ⟨m,0,none⟩) 61 [(kc39 a d b h c i)],(.tail _ (.tail _ (.tail _ (.tail _ (.tail _ (.tail _ (.tail _ (.head _)))))))),Cov.refl _⟩),(.inl ⟨.rd (some ⟨t,0,none⟩) 17 [(kc29 j r k s f n g o p q m)],(.tail _ (.tail _ (.tail _ (.tail _ (.tail _ (.tail _ (.tail _ (.tail _ (.head _))))))))),Cov.refl _⟩),trivial⟩),rfl,rfl,trivial⟩) ?_
  intro _
  refine GS.seq ?_
  refine GS.tg (fun _ => [(5,pA ((e 1).x) 0),(6,pA ((e 2).x) 0)]) (fun _ => [(11,.cells ((e 1).x) 65 (kc45)),(12,.cells ((e 2).x) 65 (kc33))]) [(1,{ act := .load 10 0 0 [] }),(3,{ act := .store 0 0 [],key := some 11 })] (fun _ => [(e 0).x = (e 0).x,(e 1).x = (e 1).x,oC (.agg #[vI 3,vI 0])]) (fun _ => ⟨rfl,rfl,rfl,trivial⟩) ?_
  intro _
  refine GS.seq ?_
  refine GS.tg (fun _ => [(6,pA ((e 2).x) 0)]) (fun _ => [(12,.cells ((e 2).x) 65 (kc45))]) [(0,{ act := .load 11 0 0 [] }),(1,{ act := .store 0 0 [],key := some 12 })] (fun _ => [(e 1).x = (e 1).x,(e 2).x = (e 2).x,oC (.agg ((kc45)).toArray)]) (fun _ => ⟨rfl,rfl,rfl,trivial⟩) ?_
  intro _
  have hy := Option.some.inj hm
  subst hy
  refine GS.ret (fn := Tryz.f45) [12] [.agg ((kc45)).toArray] [(e 2).x = (e 2).x] rfl Tryz.func45 (by kernel_rfl) ⟨rfl,trivial⟩ (fun w' hs => ?_)
  exact ⟨(),rfl,hs.turnedG (ks := []) rfl rfl⟩

theorem w___primary_Machine__done_2 (F : Nat) (z : Nat) (k : Option Addr) (u : Nat) (l : Option Addr) (v : Nat) (i : Option Addr) (p : Nat) (j : Option Addr) (q : Nat) (m : Int) (r : Option Addr) (s : Nat) (h : Nat) (a : Option Addr) (d : Nat) (b : Option Addr) (e : Nat) (c : Option Addr) (g : Nat) {y : Unit} (hm : m___primary_Machine__done_2 F m = some y) : CallG Tryz.prog 69 #[pA z 0,.agg ((kc13)).toArray] (X := Option Addr × Nat) (fun ⟨x0,x1⟩ => .agg ((kc46 x0 x1)).toArray) [.cells z 80 (kc29 k u l v i p j q r s h)] [.rd k 1 [[vI 1]],.rd l 7 [(kc19)],.rd i 5 [(kc24)],.rd j 4 [(kc26 m)],.rd a 1 [[.int .u8 120]],.rd b 1 [[.int .u8 120]],.rd c 1 [],.rd (some ⟨h,0,none⟩) 61 [(kc39 a d b e c g)]] (fun ⟨x0,x1⟩ => [.cells z 80 (kc28 k u l v i p j q r s),.osl x0 x1 65 46 [(kc45)]]) := by
  intro w hg
  rw [m___primary_Machine__done_2] at hm
  refine GS.start (S := mayT [.cells z 80 (kc29 k u l v i p j q r s h)] [.rd k 1 [[vI 1]],.rd l 7 [(kc19)],.rd i 5 [(kc24)],.rd j 4 [(kc26 m)],.rd a 1 [[.int .u8 120]],.rd b 1 [[.int .u8 120]],.rd c 1 [],.rd (some ⟨h,0,none⟩) 61 [(kc39 a d b e c g)]]) (mem := [(1,.cells z 80 (kc29 k u l v i p j q r s h)),(2,.rd k 1 [[vI 1]]),(3,.rd l 7 [(kc19)]),(4,.rd i 5 [(kc24)]),(5,.rd j 4 [(kc26 m)]),(6,.rd a 1 [[.int .u8 120]]),(7,.rd b 1 [[.int .u8 120]]),(8,.rd c 1 []),(9,.rd (some ⟨h,0,none⟩) 61 [(kc39 a d b e c g)])]) Tryz.func69 rfl Tryz.ntmps69 (Nat.le_of_ble_eq_true rfl) (hg.start rfl) ?_
  refine GS.conv (env' := [(0,pA z 0),(1,.agg ((kc13)).toArray)]) rfl rfl ?_
  refine GS.seq ?_
  refine GS.tz (fun o => [(0,pA z 0),(3,pA ((o 0).x) 0),(4,pA ((o 1).x) 0)]) (fun o => [(1,.cells z 80 (kc29 k u l v i p j q r s h)),(2,.rd k 1 [[vI 1]]),(3,.rd l 7 [(kc19)]),(4,.rd i 5 [(kc24)]),(5,.rd j 4 [(kc26 m)]),(6,.rd a 1 [[.int .u8 120]]),(7,.rd b 1 [[.int .u8 120]]),(8,.rd c 1 []),(9,.rd (some ⟨h,0,none⟩) 61 [(kc39 a d b e c g)]),(10,.cells ((o 0).x) 68 (kc13)),(11,.cells ((o 1).x) 68 (kc13))]) [(0,{ act := .new .var,key := some 10 }),(1,{ act := .new .var,key := some 11 })] ?_
  intro o
  refine GS.seq ?_
  refine GS.tgM (fun _ => [(0,pA z 0),(3,pA ((o 0).x) 0),(4,pA ((o 1).x) 0),(5,pA h 0)]) [(3,{ act := .load 1 0 0 [] })] (fun _ => [z = z]) (fun _ => ⟨rfl,trivial⟩) ?_
  intro _
  refine GS.seq ?_
  refine GS.seq ?_
  refine GS.tgM (fun _ => [(0,pA z 0),(3,pA ((o 0).x) 0),(4,pA ((o 1).x) 0),(5,pA h 0),(25,.bool false)]) [(6,{ act := .load 9 0 59 [vI 30,vI 3,vI 0,vI 2,vI 0,vI 0,vI 0,vI 1,vI 0,vI 5,vI 1,vI 0,.slice none 0 0,.slice none 0 0,.slice none 0 0,vI 0,vI 0,vI 0,vI 0,vI 0,vI 0,vI 0,vI 0,vI 0,.slice none 0 0,.slice none 0 0,.slice none 0 0,vI 0,vI 0,.bool false,vI 0,.string (ByteArray.mk #[]),vI 0,vI 0,.string (ByteArray.mk #[]),vI 0,vI 0,.slice none 0 0,vI 2,.string (ByteArray.mk #[97]),.slice a 1 d,vI 0,vI 0,.slice none 0 0,.slice none 0 0,vI 0,.bool true,vI 3,vI 1,.bool false,vI 0,.string (ByteArray.mk #[97]),vI 5,vI 1,.string (ByteArray.mk #[97]),vI 3,vI 1,.slice b 1 e,vI 0,.slice c 0 g,.bool false] })] (fun _ => [h = blk (some ⟨h,0,none⟩),59 = offs (some ⟨h,0,none⟩) + (0 * 61 + 59),([(kc39 a d b e c g)] : List (List Value))[0]? = some [vI 30,vI 3,vI 0,vI 2,vI 0,vI 0,vI 0,vI 1,vI 0,vI 5,vI 1,vI 0,.slice none 0 0,.slice none 0 0,.slice none 0 0,vI 0,vI 0,vI 0,vI 0,vI 0,vI 0,vI 0,vI 0,vI 0,.slice none 0 0,.slice none 0 0,.slice none 0 0,vI 0,vI 0,.bool false,vI 0,.string (ByteArray.mk #[]),vI 0,vI 0,.string (ByteArray.mk #[]),vI 0,vI 0,.slice none 0 0,vI 2,.string (ByteArray.mk #[97]),.slice a 1 d,vI 0,vI 0,.slice none 0 0,.slice none 0 0,vI 0,.bool true,vI 3,vI 1,.bool false,vI 0,.string (ByteArray.mk #[97]),vI 5,vI 1,.string (ByteArray.mk #[97]),vI 3,vI 1,.slice b 1 e,vI 0,.slice c 0 g,.bool false]]) (fun _ => ⟨rfl,rfl,rfl,trivial⟩) ?_
  intro _
  refine GS.cond (t := false) rfl rfl (fun hf => by cases hf) (fun _ => ?_)
  refine GS.skip ?_
  refine GS.seq ?_
  refine GS.tg (fun B => [(0,pA z 0),(3,pA ((o 0).x) 0),(4,pA ((o 1).x) 0),(5,pA h 0),(6,pA ((B 5).x) 0)]) (fun B => [(1,.cells z 80 (kc29 k u l v i p j q r s h)),(2,.rd k 1 [[vI 1]]),(3,.rd l 7 [(kc19)]),(4,.rd i 5 [(kc24)]),(5,.rd j 4 [(kc26 m)]),(6,.rd a 1 [[.int .u8 120]]),(7,.rd b 1 [[.int .u8 120]]),(8,.rd c 1 []),(9,.rd (some ⟨h,0,none⟩) 61 [(kc39 a d b e c g)]),(10,.cells ((o 0).x) 68 (kc13)),(11,.cells ((o 1).x) 68 (kc13)),(12,.cells ((B 5).x) 34 (kc17 a d))]) [(4,{ act := .load 9 0 38 [vI 30,vI 3,vI 0,vI 2,vI 0,vI 0,vI 0,vI 1,vI 0,vI 5,vI 1,vI 0,.slice none 0 0,.slice none 0 0,.slice none 0 0,vI 0,vI 0,vI 0,vI 0,vI 0,vI 0,vI 0,vI 0,vI 0,.slice none 0 0,.slice none 0 0,.slice none 0 0,vI 0,vI 0,.bool false,vI 0,.string (ByteArray.mk #[]),vI 0,vI 0,.string (ByteArray.mk #[]),vI 0,vI 0,.slice none 0 0,vI 2,.string (ByteArray.mk #[97]),.slice a 1 d,vI 0,vI 0,.slice none 0 0,.slice none 0 0,vI 0,.bool true,vI 3,vI 1,.bool false,vI 0,.string (ByteArray.mk #[97]),vI 5,vI 1,.string (ByteArray.mk #[97]),vI 3,vI 1,.slice b 1 e,vI 0,.slice c 0 g,.bool false] }),(5,{ act := .new .var,key := some 12 }),(6,{ act := .store 0 0 [],key := some 12 })] (fun B => [h = blk (some ⟨h,0,none⟩),38 = offs (some ⟨h,0,none⟩) + (0 * 61 + 38),([(kc39 a d b e c g)] : List (List Value))[0]? = some [vI 30,vI 3,vI 0,vI 2,vI 0,vI 0,vI 0,vI 1,vI 0,vI 5,vI 1,vI 0,.slice none 0 0,.slice none 0 0,.slice none 0 0,vI 0,vI 0,vI 0,vI 0,vI 0,vI 0,vI 0,vI 0,vI 0,.slice none 0 0,.slice none 0 0,.slice none 0 0,vI 0,vI 0,.bool false,vI 0,.string (ByteArray.mk #[]),vI 0,vI 0,.string (ByteArray.mk #[]),vI 0,vI 0,.slice none 0 0,vI 2,.string (ByteArray.mk #[97]),.slice a 1 d,vI 0,vI 0,.slice none 0 0,.slice none 0 0,vI 0,.bool true,vI 3,vI 1,.bool false,vI 0,.string (ByteArray.mk #[97]),vI 5,vI 1,.string (ByteArray.mk #[97]),vI 3,vI 1,.slice b 1 e,vI 0,.slice c 0 g,.bool false],(B 5).x = (B 5).x,oC (.agg ((kc17 a d)).toArray)]) (fun B => ⟨rfl,rfl,rfl,rfl,rfl,trivial⟩) ?_
  intro B
  refine GS.seq ?_
  refine GS.tg (fun A => [(0,pA z 0),(3,pA ((o 0).x) 0),(4,pA ((o 1).x) 0),(5,pA h 0),(6,pA ((B 5).x) 0),(7,pA ((A 1).x) 0)]) (fun A => [(1,.cells z 80 (kc29 k u l v i p j q r s h)),(2,.rd k 1 [[vI 1]]),(3,.rd l 7 [(kc19)]),(4,.rd i 5 [(kc24)]),(5,.rd j 4 [(kc26 m)]),(6,.rd a 1 [[.int .u8 120]]),(7,.rd b 1 [[.int .u8 120]]),(8,.rd c 1 []),(9,.rd (some ⟨h,0,none⟩) 61 [(kc39 a d b e c g)]),(10,.cells ((o 0).x) 68 (kc13)),(11,.cells ((o 1).x) 68 (kc13)),(12,.cells ((B 5).x) 34 (kc17 a d)),(13,.cells ((A 1).x) 65 (kc33))]) [(1,{ act := .new .var,key := some 13 }),(2,{ act := .store 0 0 [],key := some 13 })] (fun A => [(A 1).x = (A 1).x,oC (.agg ((kc33)).toArray)]) (fun A => ⟨rfl,rfl,trivial⟩) ?_
  intro A
  refine GS.seq ?_
  refine GS.block ?_
  refine GS.seq ?_
  refine GS.tgM (fun _ => [(0,pA z 0),(3,pA ((o 0).x) 0),(4,pA ((o 1).x) 0),(5,pA h 0),(6,pA ((B 5).x) 0),(7,pA ((A 1).x) 0),(53,.bool true)]) [(3,{ act := .load 9 0 46 [vI 30,vI 3,vI 0,vI 2,vI 0,vI 0,vI 0,vI 1,vI 0,vI 5,vI 1,vI 0,.slice none 0 0,.slice none 0 0,.slice none 0 0,vI 0,vI 0,vI 0,vI 0,vI 0,vI 0,vI 0,vI 0,vI 0,.slice none 0 0,.slice none 0 0,.slice none 0 0,vI 0,vI 0,.bool false,vI 0,.string (ByteArray.mk #[]),vI 0,vI 0,.string (ByteArray.mk #[]),vI 0,vI 0,.slice none 0 0,vI 2,.string (ByteArray.mk #[97]),.slice a 1 d,vI 0,vI 0,.slice none 0 0,.slice none 0 0,vI 0,.bool true,vI 3,vI 1,.bool false,vI 0,.string (ByteArray.mk #[97]),vI 5,vI 1,.string (ByteArray.mk #[97]),vI 3,vI 1,.slice b 1 e,vI 0,.slice c 0 g,.bool false] })] (fun _ => [h = blk (some ⟨h,0,none⟩),46 = offs (some ⟨h,0,none⟩) + (0 * 61 + 46),([(kc39 a d b e c g)] : List (List Value))[0]? = some [vI 30,vI 3,vI 0,vI 2,vI 0,vI 0,vI 0,vI 1,vI 0,vI 5,vI 1,vI 0,.slice none 0 0,.slice none 0 0,.slice none 0 0,vI 0,vI 0,vI 0,vI 0,vI 0,vI 0,vI 0,vI 0,vI 0,.slice none 0 0,.slice none 0 0,.slice none 0 0,vI 0,vI 0,.bool false,vI 0,.string (ByteArray.mk #[]),vI 0,vI 0,.string (ByteArray.mk #[]),vI 0,vI 0,.slice none 0 0,vI 2,.string (ByteArray.mk #[97]),.slice a 1 d,vI 0,vI 0,.slice none 0 0,.slice none 0 0,vI 0,.bool true,vI 3,vI 1,.bool false,vI 0,.string (ByteArray.mk #[97]),vI 5,vI 1,.string (ByteArray.mk #[97]),vI 3,vI 1,.slice b 1 e,vI 0,.slice c 0 g,.bool false]]) (fun _ => ⟨rfl,rfl,rfl,trivial⟩) ?_
  intro _
  refine GS.cond (t := true) rfl rfl (fun _ => ?_) (fun hf => by cases hf)
  refine GS.seq ?_
  refine GS.tg (fun _ => [(0,pA z 0),(3,pA ((o 0).x) 0),(4,pA ((o 1).x) 0),(5,pA h 0),(7,pA ((A 1).x) 0)]) (fun _ => [(1,.cells z 80 (kc29 k u l v i p j q r s h)),(2,.rd k 1 [[vI 1]]),(3,.rd l 7 [(kc19)]),(4,.rd i 5 [(kc24)]),(5,.rd j 4 [(kc26 m)]),(6,.rd a 1 [[.int .u8 120]]),(7,.rd b 1 [[.int .u8 120]]),(8,.rd c 1 []),(9,.rd (some ⟨h,0,none⟩) 61 [(kc39 a d b e c g)]),(10,.cells ((o 0).x) 68 (kc13)),(11,.cells ((o 1).x) 68 (kc13)),(13,.cells ((A 1).x) 65 (kc33))]) [(4,{ act := .load 9 0 50 [vI 30,vI 3,vI 0,vI 2,vI 0,vI 0,vI 0,vI 1,vI 0,vI 5,vI 1,vI 0,.slice none 0 0,.slice none 0 0,.slice none 0 0,vI 0,vI 0,vI 0,vI 0,vI 0,vI 0,vI 0,vI 0,vI 0,.slice none 0 0,.slice none 0 0,.slice none 0 0,vI 0,vI 0,.bool false,vI 0,.string (ByteArray.mk #[]),vI 0,vI 0,.string (ByteArray.mk #[]),vI 0,vI 0,.slice none 0 0,vI 2,.string (ByteArray.mk #[97]),.slice a 1 d,vI 0,vI 0,.slice none 0 0,.slice none 0 0,vI 0,.bool true,vI 3,vI 1,.bool false,vI 0,.string (ByteArray.mk #[97]),vI 5,vI 1,.string (ByteArray.mk #[97]),vI 3,vI 1,.slice b 1 e,vI 0,.slice c 0 g,.bool false] }),(6,{ act := .store 0 0 [],key := some 13 })] (fun _ => [h = blk (some ⟨h,0,none⟩),50 = offs (some ⟨h,0,none⟩) + (0 * 61 + 50),([(kc39 a d b e c g)] : List (List Value))[0]? = some [vI 30,vI 3,vI 0,vI 2,vI 0,vI 0,vI 0,vI 1,vI 0,vI 5,vI 1,vI 0,.slice none 0 0,.slice none 0 0,.slice none 0 0,vI 0,vI 0,vI 0,vI 0,vI 0,vI 0,vI 0,vI 0,vI 0,.slice none 0 0,.slice none 0 0,.slice none 0 0,vI 0,vI 0,.bool false,vI 0,.string (ByteArray.mk #[]),vI 0,vI 0,.string (ByteArray.mk #[]),vI 0,vI 0,.slice none 0 0,vI 2,.string (ByteArray.mk #[97]),.slice a 1 d,vI 0,vI 0,.slice none 0 0,.slice none 0 0,vI 0,.bool true,vI 3,vI 1,.bool false,vI 0,.string (ByteArray.mk #[97]),vI 5,vI 1,.string (ByteArray.mk #[97]),vI 3,vI 1,.slice b 1 e,vI 0,.slice c 0 g,.bool false],(A 1).x = (A 1).x,oC (vI 0)]) (fun _ => ⟨rfl,rfl,rfl,rfl,rfl,trivial⟩) ?_
  intro _
  refine GS.seq ?_
  refine GS.tgM (fun _ => [(0,pA z 0),(3,pA ((o 0).x) 0),(4,pA ((o 1).x) 0),(5,pA h 0),(7,pA ((A 1).x) 0),(66,.bool true)]) [(1,{ act := .load 13 0 0 [] })] (fun _ => [(A 1).x = (A 1).x]) (fun _ => ⟨rfl,trivial⟩) ?_
  intro _
  refine GS.cond (t := true) rfl rfl (fun _ => ?_) (fun hf => by cases hf)
  refine GS.region (env' := fun _ => [(0,pA z 0),(3,pA ((o 0).x) 0),(4,pA ((o 1).x) 0),(5,pA h 0),(7,pA ((A 1).x) 0)]) (mem' := fun _ => [(1,.cells z 80 (kc29 k u l v i p j q r s h)),(2,.rd k 1 [[vI 1]]),(3,.rd l 7 [(kc19)]),(4,.rd i 5 [(kc24)]),(5,.rd j 4 [(kc26 m)]),(6,.rd a 1 [[.int .u8 120]]),(7,.rd b 1 [[.int .u8 120]]),(8,.rd c 1 []),(9,.rd (some ⟨h,0,none⟩) 61 [(kc39 a d b e c g)]),(10,.cells ((o 0).x) 68 (kc13)),(11,.cells ((o 1).x) 68 (kc13)),(13,.cells ((A 1).x) 65 (kc41))]) (RunsTo.mkd [(4,{ act := .load 9 0 51 [vI 30,vI 3,vI 0,vI 2,vI 0,vI 0,vI 0,vI 1,vI 0,vI 5,vI 1,vI 0,.slice none 0 0,.slice none 0 0,.slice none 0 0,vI 0,vI 0,vI 0,vI 0,vI 0,vI 0,vI 0,vI 0,vI 0,.slice none 0 0,.slice none 0 0,.slice none 0 0,vI 0,vI 0,.bool false,vI 0,.string (ByteArray.mk #[]),vI 0,vI 0,.string (ByteArray.mk #[]),vI 0,vI 0,.slice none 0 0,vI 2,.string (ByteArray.mk #[97]),.slice a 1 d,vI 0,vI 0,.slice none 0 0,.slice none 0 0,vI 0,.bool true,vI 3,vI 1,.bool false,vI 0,.string (ByteArray.mk #[97]),vI 5,vI 1,.string (ByteArray.mk #[97]),vI 3,vI 1,.slice b 1 e,vI 0,.slice c 0 g,.bool false] }),(9,{ act := .load 9 0 47 [vI 30,vI 3,vI 0,vI 2,vI 0,vI 0,vI 0,vI 1,vI 0,vI 5,vI 1,vI 0,.slice none 0 0,.slice none 0 0,.slice none 0 0,vI 0,vI 0,vI 0,vI 0,vI 0,vI 0,vI 0,vI 0,vI 0,.slice none 0 0,.slice none 0 0,.slice none 0 0,vI 0,vI 0,.bool false,vI 0,.string (ByteArray.mk #[]),vI 0,vI 0,.string (ByteArray.mk #[]),vI 0,vI 0,.slice none 0 0,vI 2,.string (ByteArray.mk #[97]),.slice a 1 d,vI 0,vI 0,.slice none 0 0,.slice none 0 0,vI 0,.bool true,vI 3,vI 1,.bool false,vI 0,.string (ByteArray.mk #[97]),vI 5,vI 1,.string (ByteArray.mk #[97]),vI 3,vI 1,.slice b 1 e,vI 0,.slice c 0 g,.bool false] }),(12,{ act := .store 0 0 [],key := some 13 })] [0,3,4,5,7] [1,2,3,4,5,6,7,8,9,10,11,13] (fun _ => [h = blk (some ⟨h,0,none⟩),51 = offs (some ⟨h,0,none⟩) + (0 * 61 + 51),([(kc39 a d b e c g)] : List (List Value))[0]? = some [vI 30,vI 3,vI 0,vI 2,vI 0,vI 0,vI 0,vI 1,vI 0,vI 5,vI 1,vI 0,.slice none 0 0,.slice none 0 0,.slice none 0 0,vI 0,vI 0,vI 0,vI 0,vI 0,vI 0,vI 0,vI 0,vI 0,.slice none 0 0,.slice none 0 0,.slice none 0 0,vI 0,vI 0,.bool false,vI 0,.string (ByteArray.mk #[]),vI 0,vI 0,.string (ByteArray.mk #[]),vI 0,vI 0,.slice none 0 0,vI 2,.string (ByteArray.mk #[97]),.slice a 1 d,vI 0,vI 0,.slice none 0 0,.slice none 0 0,vI 0,.bool true,vI 3,vI 1,.bool false,vI 0,.string (ByteArray.mk #[97]),vI 5,vI 1,.string (ByteArray.mk #[97]),vI 3,vI 1,.slice b 1 e,vI 0,.slice c 0 g,.bool false],h = blk (some ⟨h,0,none⟩),47 = offs (some ⟨h,0,none⟩) + (0 * 61 + 47),([(kc39 a d b e c g)] : List (List Value))[0]? = some [vI 30,vI 3,vI 0,vI 2,vI 0,vI 0,vI 0,vI 1,vI 0,vI 5,vI 1,vI 0,.slice none 0 0,.slice none 0 0,.slice none 0 0,vI 0,vI 0,vI 0,vI 0,vI 0,vI 0,vI 0,vI 0,vI 0,.slice none 0 0,.slice none 0 0,.slice none 0 0,vI 0,vI 0,.bool false,vI 0,.string (ByteArray.mk #[]),vI 0,vI 0,.string (ByteArray.mk #[]),vI 0,vI 0,.slice none 0 0,vI 2,.string (ByteArray.mk #[97]),.slice a 1 d,vI 0,vI 0,.slice none 0 0,.slice none 0 0,vI 0,.bool true,vI 3,vI 1,.bool false,vI 0,.string (ByteArray.mk #[97]),vI 5,vI 1,.string (ByteArray.mk #[97]),vI 3,vI 1,.slice b 1 e,vI 0,.slice c 0 g,.bool false],(A 1).x = (A 1).x,oC (.agg ((kc40)).toArray)]) (by kernel_rfl) (by kernel_rfl) (fun _ => by kernel_rfl) (fun _ => ⟨rfl,rfl,rfl,rfl,rfl,rfl,rfl,rfl,trivial⟩)) ?_
  intro _
  refine GS.inBlock ?_
  refine GS.seq ?_
  refine bnd_elim hm (fun D C hm => ?_)
  refine GS.region (env' := fun n => [(0,pA z 0),(3,pA ((o 0).x) 0),(4,pA ((o 1).x) 0)]) (mem' := fun n => [(1,.cells z 80 (kc29 k u l v i p j q r s h)),(2,.rd k 1 [[vI 1]]),(3,.rd l 7 [(kc19)]),(4,.rd i 5 [(kc24)]),(5,.rd j 4 [(kc26 m)]),(6,.rd a 1 [[.int .u8 120]]),(7,.rd b 1 [[.int .u8 120]]),(8,.rd c 1 []),(9,.rd (some ⟨h,0,none⟩) 61 [(kc39 a d b e c g)]),(10,.cells ((o 0).x) 68 (kc46 ((n 10).ob) ((n 10).cap))),(11,.cells ((o 1).x) 68 (kc13)),(15,.osl ((n 10).ob) ((n 10).cap) 65 46 ([(kc45)] : List (List Value)))]) (RunsTo.mkd [(1,{ act := .load 10 0 0 [] }),(6,{ act := .load 9 0 0 [vI 30,vI 3,vI 0,vI 2,vI 0,vI 0,vI 0,vI 1,vI 0,vI 5,vI 1,vI 0,.slice none 0 0,.slice none 0 0,.slice none 0 0,vI 0,vI 0,vI 0,vI 0,vI 0,vI 0,vI 0,vI 0,vI 0,.slice none 0 0,.slice none 0 0,.slice none 0 0,vI 0,vI 0,.bool false,vI 0,.string (ByteArray.mk #[]),vI 0,vI 0,.string (ByteArray.mk #[]),vI 0,vI 0,.slice none 0 0,vI 2,.string (ByteArray.mk #[97]),.slice a 1 d,vI 0,vI 0,.slice none 0 0,.slice none 0 0,vI 0,.bool true,vI 3,vI 1,.bool false,vI 0,.string (ByteArray.mk #[97]),vI 5,vI 1,.string (ByteArray.mk #[97]),vI 3,vI 1,.slice b 1 e,vI 0,.slice c 0 g,.bool false] }),(7,{ act := .load 13 0 0 [] }),(8,{ act := .call [1,2,3,4,5,6,7,8,9] (.agg ((kc45)).toArray) }),(9,{ act := .new (.row 1 46),key := some 14 }),(10,{ act := .app (some 14),key := some 15,spf := some (fun f => .slice (f.ob) 1 (f.cap)) }),(12,{ act := .store 0 0 [],key := some 10 })] [0,3,4] [1,2,3,4,5,6,7,8,9,10,11,15] (fun n => [(o 0).x = (o 0).x,h = blk (some ⟨h,0,none⟩),0 = offs (some ⟨h,0,none⟩) + (0 * 61 + 0),([(kc39 a d b e c g)] : List (List Value))[0]? = some [vI 30,vI 3,vI 0,vI 2,vI 0,vI 0,vI 0,vI 1,vI 0,vI 5,vI 1,vI 0,.slice none 0 0,.slice none 0 0,.slice none 0 0,vI 0,vI 0,vI 0,vI 0,vI 0,vI 0,vI 0,vI 0,vI 0,.slice none 0 0,.slice none 0 0,.slice none 0 0,vI 0,vI 0,.bool false,vI 0,.string (ByteArray.mk #[]),vI 0,vI 0,.string (ByteArray.mk #[]),vI 0,vI 0,.slice none 0 0,vI 2,.string (ByteArray.mk #[97]),.slice a 1 d,vI 0,vI 0,.slice none 0 0,.slice none 0 0,vI 0,.bool true,vI 3,vI 1,.bool false,vI 0,.string (ByteArray.mk #[97]),vI 5,vI 1,.string (ByteArray.mk #[97]),vI 3,vI 1,.slice b 1 e,vI 0,.slice c 0 g,.bool false],(A 1).x = (A 1).x,CallOK Tryz.prog 45 #[pA z 0,.agg ((kc12 a d)).toArray,.agg ((kc41)).toArray] (.agg ((kc45)).toArray) [some (.cells z 80 (kc29 k u l v i p j q r s h)),some (.rd k 1 [[vI 1]]),some (.rd l 7 [(kc19)]),some (.rd i 5 [(kc24)]),some (.rd j 4 [(kc26 m)]),some (.rd a 1 [[.int .u8 120]]),some (.rd b 1 [[.int .u8 120]]),some (.rd c 1 []),some (.rd (some ⟨h,0,none⟩) 61 [(kc39 a d b e c g)])],(some (Addr.mk (n 9).x 0 none)) = (some (Addr.mk (n 9).x 0 none)),1 = ([(kc45)] : List (List Value)).length,0 = 0,0 = 0,([(kc45)] : List (List Value)).length * (552 + 1) ≤ 70368744177664,((.slice ((n 10).ob) (0 + ([(kc45)] : List (List Value)).length) ((n 10).cap)) : Value) = .slice ((n 10).ob) 1 ((n 10).cap),(o 0).x = (o 0).x,oC (.slice ((n 10).ob) 1 ((n 10).cap))]) (by kernel_rfl) (by kernel_rfl) (fun n => by kernel_rfl) (fun n => ⟨rfl,rfl,rfl,rfl,rfl,(by have h1 := w___primary_Machine__answer F z k u l v i p j q m r s h a d b e c g C; exact h1.ok ⟨(.inl ⟨.rd k 1 [[vI 1]],(.tail _ (.head _)),Cov.refl _⟩),(.inl ⟨.rd l 7 [(kc19)],(.tail _ (.tail _ (.head _))),Cov.refl _⟩),(.inl ⟨.rd i 5 [(kc24)],(.tail _ (.tail _ (.tail _ (.head _)))),Cov.refl _⟩),(.inl ⟨.rd j 4 [(kc26 m)],(.tail _ (.tail _ (.tail _ (.tail _ (.head _))))),Cov.refl _⟩),(.inl ⟨.rd a 1 [[.int .u8 120]],(.tail _ (.tail _ (.tail _ (.tail _ (.tail _ (.head _)))))),Cov.refl _⟩),(.inl ⟨.rd b 1 [[.int .u8 120]],(.tail _ (.tail _ (.tail _ (.tail _ (.tail _ (.tail _ (.head _))))))),Cov.refl _⟩),(.inl ⟨.rd c 1 [],(.tail _ (.tail _ (.tail _ (.tail _ (.tail _ (.tail _ (.tail _ (.head _)))))))),Cov.refl _⟩),(.inl ⟨.rd (some ⟨h,0,none⟩) 61 [(kc39 a d b e c g)],(.tail _ (.tail _ (.tail _ (.tail _ (.tail _ (.tail _ (.tail _ (.tail _ (.head _))))))))),Cov.refl _⟩),(.inl ⟨.cells z 80 (kc29 k u l v i p j q r s h),.head _,Cov.cells_rd⟩),trivial⟩),rfl,rfl,rfl,rfl,(show 1 * (552 + 1) ≤ 70368744177664 by decide),rfl,rfl,rfl,trivial⟩)) ?_
  intro n
  refine GS.conv (mem' := [(1,.cells z 80 (kc29 k u l v i p j q r s h)),(2,.rd k 1 [[vI 1]]),(3,.rd l 7 [(kc19)]),(4,.rd i 5 [(kc24)]),(5,.rd j 4 [(kc26 m)]),(6,.rd a 1 [[.int .u8 120]]),(7,.rd b 1 [[.int .u8 120]]),(8,.rd c 1 []),(9,.rd (some ⟨h,0,none⟩) 61 [(kc39 a d b e c g)]),(10,.cells ((o 0).x) 68 (kc46 ((n 10).ob) ((n 10).cap))),(11,.cells ((o 1).x) 68 (kc13)),(15,.osl ((n 10).ob) ((n 10).cap) 65 46 [(kc45)])]) rfl (congrArg (fun rr : List (List Value) => ([(1,.cells z 80 (kc29 k u l v i p j q r s h)),(2,.rd k 1 [[vI 1]]),(3,.rd l 7 [(kc19)]),(4,.rd i 5 [(kc24)]),(5,.rd j 4 [(kc26 m)]),(6,.rd a 1 [[.int .u8 120]]),(7,.rd b 1 [[.int .u8 120]]),(8,.rd c 1 []),(9,.rd (some ⟨h,0,none⟩) 61 [(kc39 a d b e c g)]),(10,.cells ((o 0).x) 68 (kc46 ((n 10).ob) ((n 10).cap))),(11,.cells ((o 1).x) 68 (kc13)),(15,.osl ((n 10).ob) ((n 10).cap) 65 46 rr)] : List (Nat × Ent))) (show ([(kc45)] : List (List Value)) = ([(kc45)] : List (List Value)) from rfl)) ?_
  refine GS.seq ?_
  refine GS.tg (fun _ => [(3,pA ((o 0).x) 0),(4,pA ((o 1).x) 0)]) (fun _ => [(1,.cells z 80 (kc28 k u l v i p j q r s)),(2,.rd k 1 [[vI 1]]),(3,.rd l 7 [(kc19)]),(4,.rd i 5 [(kc24)]),(5,.rd j 4 [(kc26 m)]),(10,.cells ((o 0).x) 68 (kc46 ((n 10).ob) ((n 10).cap))),(11,.cells ((o 1).x) 68 (kc13)),(15,.osl ((n 10).ob) ((n 10).cap) 65 46 [(kc45)])]) [(3,{ act := .store 0 0 [],key := some 1 })] (fun _ => [z = z,oC (.pointer none)]) (fun _ => ⟨rfl,rfl,trivial⟩) ?_
  intro _
  refine GS.seq ?_
  refine GS.tg (fun _ => [(4,pA ((o 1).x) 0)]) (fun _ => [(1,.cells z 80 (kc28 k u l v i p j q r s)),(2,.rd k 1 [[vI 1]]),(3,.rd l 7 [(kc19)]),(4,.rd i 5 [(kc24)]),(5,.rd j 4 [(kc26 m)]),(11,.cells ((o 1).x) 68 (kc46 ((n 10).ob) ((n 10).cap))),(15,.osl ((n 10).ob) ((n 10).cap) 65 46 [(kc45)])]) [(0,{ act := .load 10 0 0 [] }),(1,{ act := .store 0 0 [],key := some 11 })] (fun _ => [(o 0).x = (o 0).x,(o 1).x = (o 1).x,oC (.agg ((kc46 ((n 10).ob) ((n 10).cap))).toArray)]) (fun _ => ⟨rfl,rfl,rfl,trivial⟩) ?_
  intro _
  have hy := Option.some.inj hm
  subst hy
  refine GS.ret (fn := Tryz.f69) [11] [.agg ((kc46 ((n 10).ob) ((n 10).cap))).toArray] [(o 1).x = (o 1).x] rfl Tryz.func69 (by kernel_rfl) ⟨rfl,trivial⟩ (fun w' hs => ?_)
  exact ⟨⟨(n 10).ob,(n 10).cap⟩,rfl,hs.turnedG (ks := [1,15]) rfl rfl⟩

theorem w___primary_Machine__begin_2 (F : Nat) (n : Nat) (c : Option Addr) (j : Nat) (d : Option Addr) (k : Nat) (a : Option Addr) (e : Nat) (b : Option Addr) (f : Nat) (l : Int) (g : Option Addr) (h : Nat) (i : Option Addr) (m : Nat) {y : Unit} (hm : m___primary_Machine__begin_2 F l = some y) : CallG Tryz.prog 46 #[pA n 0,.agg ((kc46 i m)).toArray] (X := Unit) (fun (_ : Unit) => .agg ((kc46 i m)).toArray) [] [.rd c 1 [[vI 1]],.rd d 7 [(kc19)],.rd a 5 [(kc24)],.rd b 4 [(kc26 l)],.rd (some ⟨n,0,none⟩) 17 [(kc28 c j d k a e b f g h)],.rd i 46 [(kc45)]] (fun (_ : Unit) => []) := by
  intro w hg
  rw [m___primary_Machine__begin_2] at hm
  refine GS.start (S := mayT [] [.rd c 1 [[vI 1]],.rd d 7 [(kc19)],.rd a 5 [(kc24)],.rd b 4 [(kc26 l)],.rd (some ⟨n,0,none⟩) 17 [(kc28 c j d k a e b f g h)],.rd i 46 [(kc45)]]) (mem := [(1,.rd c 1 [[vI 1]]),(2,.rd d 7 [(kc19)]),(3,.rd a 5 [(kc24)]),(4,.rd b 4 [(kc26 l)]),(5,.rd (some ⟨n,0,none⟩) 17 [(kc28 c j d k a e b f g h)]),(6,.rd i 46 [(kc45)])]) Tryz.func46 rfl Tryz.ntmps46 (Nat.le_of_ble_eq_true rfl) (hg.start rfl) ?_
  refine GS.conv (env' := [(0,pA n 0),(1,.agg ((kc46 i m)).toArray)]) rfl rfl ?_
  refine GS.seq ?_
  refine GS.tz (fun o => [(0,pA n 0),(3,pA ((o 0).x) 0),(4,pA ((o 1).x) 0)]) (fun o => [(1,.rd c 1 [[vI 1]]),(2,.rd d 7 [(kc19)]),(3,.rd a 5 [(kc24)]),(4,.rd b 4 [(kc26 l)]),(5,.rd (some ⟨n,0,none⟩) 17 [(kc28 c j d k a e b f g h)]),(6,.rd i 46 [(kc45)]),(7,.cells ((o 0).x) 68 (kc46 i m)),(8,.cells ((o 1).x) 68 (kc13))]) [(0,{ act := .new .var,key := some 7 }),(1,{ act := .new .var,key := some 8 })] ?_
  intro o
  refine GS.seq ?_
  refine GS.block ?_
  refine GS.loop ?_
  refine GS.seq ?_
  refine GS.seq ?_
  refine GS.tgM (fun _ => [(0,pA n 0),(3,pA ((o 0).x) 0),(4,pA ((o 1).x) 0),(35,.bool false)]) [(3,{ act := .load 5 0 13 [vI 1,vI 0,vI 3,vI 0,vI 9,.slice c 1 j,vI 3,vI 0,vI 0,.slice d 1 k,.slice a 1 e,.slice b 1 f,.slice g 0 h,.pointer none,.bool false,vI 0,.bool true] }),(9,{ act := .load 5 0 14 [vI 1,vI 0,vI 3,vI 0,vI 9,.slice c 1 j,vI 3,vI 0,vI 0,.slice d 1 k,.slice a 1 e,.slice b 1 f,.slice g 0 h,.pointer none,.bool false,vI 0,.bool true] }),(16,{ act := .load 5 0 12 [vI 1,vI 0,vI 3,vI 0,vI 9,.slice c 1 j,vI 3,vI 0,vI 0,.slice d 1 k,.slice a 1 e,.slice b 1 f,.slice g 0 h,.pointer none,.bool false,vI 0,.bool true] })] (fun _ => [n = blk (some ⟨n,0,none⟩),13 = offs (some ⟨n,0,none⟩) + (0 * 17 + 13),([(kc28 c j d k a e b f g h)] : List (List Value))[0]? = some [vI 1,vI 0,vI 3,vI 0,vI 9,.slice c 1 j,vI 3,vI 0,vI 0,.slice d 1 k,.slice a 1 e,.slice b 1 f,.slice g 0 h,.pointer none,.bool false,vI 0,.bool true],n = blk (some ⟨n,0,none⟩),14 = offs (some ⟨n,0,none⟩) + (0 * 17 + 14),([(kc28 c j d k a e b f g h)] : List (List Value))[0]? = some [vI 1,vI 0,vI 3,vI 0,vI 9,.slice c 1 j,vI 3,vI 0,vI 0,.slice d 1 k,.slice a 1 e,.slice b 1 f,.slice g 0 h,.pointer none,.bool false,vI 0,.bool true],n = blk (some ⟨n,0,none⟩),12 = offs (some ⟨n,0,none⟩) + (0 * 17 + 12),([(kc28 c j d k a e b f g h)] : List (List Value))[0]? = some [vI 1,vI 0,vI 3,vI 0,vI 9,.slice c 1 j,vI 3,vI 0,vI 0,.slice d 1 k,.slice a 1 e,.slice b 1 f,.slice g 0 h,.pointer none,.bool false,vI 0,.bool true]]) (fun _ => ⟨rfl,rfl,rfl,rfl,rfl,rfl,rfl,rfl,rfl,trivial⟩) ?_
  intro _
  refine GS.cond (t := false) rfl rfl (fun hf => by cases hf) (fun _ => ?_)
  refine GS.exit rfl ?_
  refine GS.seq ?_
  refine GS.tg (fun _ => [(4,pA ((o 1).x) 0)]) (fun _ => [(6,.rd i 46 [(kc45)]),(8,.cells ((o 1).x) 68 (kc46 i m))]) [(0,{ act := .load 7 0 0 [] }),(1,{ act := .store 0 0 [],key := some 8 })] (fun _ => [(o 0).x = (o 0).x,(o 1).x = (o 1).x,oC (.agg ((kc46 i m)).toArray)]) (fun _ => ⟨rfl,rfl,rfl,trivial⟩) ?_
  intro _
  have hy := Option.some.inj hm
  subst hy
  refine GS.ret (fn := Tryz.f46) [8] [.agg ((kc46 i m)).toArray] [(o 1).x = (o 1).x] rfl Tryz.func46 (by kernel_rfl) ⟨rfl,trivial⟩ (fun w' hs => ?_)
  exact ⟨(),rfl,hs.turnedG (ks := []) rfl rfl⟩

theorem w___primary_Machine__acked (F : Nat) (B : Nat) (k : Option Addr) (u : Nat) (l : Option Addr) (z : Nat) (f : Option Addr) (p : Nat) (j : Option Addr) (q : Nat) (m : Int) (r : Option Addr) (s : Nat) (e : Nat) (c : Option Addr) (n : Nat) (d : Option Addr) (o : Nat) (a : Option Addr) (b : Nat) (E : 1 ≤ b) {y : Unit} (hm : m___primary_Machine__acked F m = some y) : CallG Tryz.prog 43 #[pA B 0,.agg ((kc38)).toArray] (X := Option Addr × Nat × Option Addr × Nat) (fun ⟨x0,x1,x2,x3⟩ => .agg ((kc46 x2 x3)).toArray) [.osl a b 3 1 [[vI 1]],.cells e 104 (kc22 c n d o a b),.cells B 80 (kc29 k u l z f p j q r s e)] [.rd k 1 [[vI 1]],.rd l 7 [(kc19)],.rd f 5 [(kc24)],.rd j 4 [(kc26 m)],.rd c 1 [[.int .u8 120]],.rd d 1 [[.int .u8 120]]] (fun ⟨x0,x1,x2,x3⟩ => [.osl a b 3 1 [],.cells e 104 (kc39 c n d o a b),.cells B 80 (kc28 k u l z f p j q x0 x1),.osl x2 x3 65 46 [(kc45)]]) := by
  intro w hg
  rw [m___primary_Machine__acked] at hm
  refine GS.start (S := mayT [.osl a b 3 1 [[vI 1]],.cells e 104 (kc22 c n d o a b),.cells B 80 (kc29 k u l z f p j q r s e)] [.rd k 1 [[vI 1]],.rd l 7 [(kc19)],.rd f 5 [(kc24)],.rd j 4 [(kc26 m)],.rd c 1 [[.int .u8 120]],.rd d 1 [[.int .u8 120]]]) (mem := [(1,.osl a b 3 1 [[vI 1]]),(2,.cells e 104 (kc22 c n d o a b)),(3,.cells B 80 (kc29 k u l z f p j q r s e)),(4,.rd k 1 [[vI 1]]),(5,.rd l 7 [(kc19)]),(6,.rd f 5 [(kc24)]),(7,.rd j 4 [(kc26 m)]),(8,.rd c 1 [[.int .u8 120]]),(9,.rd d 1 [[.int .u8 120]])]) Tryz.func43 rfl Tryz.ntmps43 (Nat.le_of_ble_eq_true rfl) (hg.start rfl) ?_
  refine GS.conv (env' := [(0,pA B 0),(1,.agg ((kc38)).toArray)]) rfl rfl ?_
  refine GS.seq ?_
  refine GS.tz (fun A => [(0,pA B 0),(3,pA ((A 0).x) 0),(4,pA ((A 1).x) 0)]) (fun A => [(1,.osl a b 3 1 [[vI 1]]),(2,.cells e 104 (kc22 c n d o a b)),(3,.cells B 80 (kc29 k u l z f p j q r s e)),(4,.rd k 1 [[vI 1]]),(5,.rd l 7 [(kc19)]),(6,.rd f 5 [(kc24)]),(7,.rd j 4 [(kc26 m)]),(8,.rd c 1 [[.int .u8 120]]),(9,.rd d 1 [[.int .u8 120]]),(10,.cells ((A 0).x) 65 (kc38)),(11,.cells ((A 1).x) 68 (kc13))]) [(0,{ act := .new .var,key := some 10 }),(1,{ act := .new .var,key := some 11 })] ?_
  intro A
  refine GS.seq ?_
  refine GS.tgM (fun _ => [(0,pA B 0),(3,pA ((A 0).x) 0),(4,pA ((A 1).x) 0),(5,pA e 0)]) [(3,{ act := .load 3 0 0 [] })] (fun _ => [B = B]) (fun _ => ⟨rfl,trivial⟩) ?_
  intro _
  refine GS.seq ?_
  refine GS.seq ?_
  refine GS.rM (env' := fun _ => [(0,pA B 0),(3,pA ((A 0).x) 0),(4,pA ((A 1).x) 0),(5,pA e 0),(34,.bool false)]) (RunsTo.mkd [(6,{ act := .load 2 0 0 [] }),(10,{ act := .load 10 0 0 [] }),(14,{ act := .load 3 0 0 [] }),(20,{ act := .load 10 0 0 [] })] [0,3,4,5,34] [1,2,3,4,5,6,7,8,9,10,11] (fun _ => [e = e,(A 0).x = (A 0).x,B = B,(A 0).x = (A 0).x]) (by kernel_rfl) (by kernel_rfl) (fun _ => by kernel_rfl) (fun _ => ⟨rfl,rfl,rfl,rfl,trivial⟩)) ?_
  intro _
  refine GS.cond (t := false) rfl rfl (fun hf => by cases hf) (fun _ => ?_)
  refine GS.skip ?_
  refine GS.seq ?_
  refine bnd_elim hm (fun y5 e6 hm => ?_)
  refine GS.rM (env' := fun _ => [(0,pA B 0),(3,pA ((A 0).x) 0),(4,pA ((A 1).x) 0),(5,pA e 0),(6,vI 0)]) (RunsTo.mkd [(3,{ act := .load 2 0 0 [] }),(6,{ act := .load 10 0 0 [] }),(7,{ act := .call [1] (vI 0) })] [0,3,4,5,6] [1,2,3,4,5,6,7,8,9,10,11] (fun _ => [e = e,(A 0).x = (A 0).x,CallOK Tryz.prog 60 #[.slice a 1 b,vI 1] (vI 0) [some (.osl a b 3 1 [[vI 1]])]]) (by kernel_rfl) (by kernel_rfl) (fun _ => by kernel_rfl) (fun _ => ⟨rfl,rfl,(by have h1 := w_slices_Index___int_int__2 F a b e6; exact h1.ok ⟨(.inl ⟨.osl a b 3 1 [[vI 1]],.head _,Cov.osl_rd⟩),trivial⟩),trivial⟩)) ?_
  intro _
  refine GS.seq ?_
  refine GS.region (env' := fun _ => [(0,pA B 0),(4,pA ((A 1).x) 0),(5,pA e 0),(6,vI 0),(7,.bool true)]) (mem' := fun _ => [(1,.osl a b 3 1 [[vI 1]]),(2,.cells e 104 (kc22 c n d o a b)),(3,.cells B 80 (kc29 k u l z f p j q r s e)),(4,.rd k 1 [[vI 1]]),(5,.rd l 7 [(kc19)]),(6,.rd f 5 [(kc24)]),(7,.rd j 4 [(kc26 m)]),(8,.rd c 1 [[.int .u8 120]]),(9,.rd d 1 [[.int .u8 120]]),(11,.cells ((A 1).x) 68 (kc13))]) (RunsTo.mkd [(1,{ act := .load 10 0 0 [] }),(7,{ act := .load 2 0 0 [] }),(12,{ act := .load 10 0 0 [] }),(17,{ act := .load 2 0 0 [] }),(18,{ act := .eq,sp := some (.bool true) })] [0,4,5,6,7] [1,2,3,4,5,6,7,8,9,11] (fun _ => [(A 0).x = (A 0).x,e = e,(A 0).x = (A 0).x,e = e,((.bool (S_api_Version.beq (S_api_Version.mk 3 1) (S_api_Version.mk 3 1))) : Value) = .bool true]) (by kernel_rfl) (by kernel_rfl) (fun _ => by kernel_rfl) (fun _ => ⟨rfl,rfl,rfl,rfl,(by kernel_rfl),trivial⟩)) ?_
  intro _
  refine GS.seq ?_
  refine GS.seq ?_
  refine GS.tzM (fun _ => [(0,pA B 0),(4,pA ((A 1).x) 0),(5,pA e 0),(6,vI 0),(90,.bool false)]) [] ?_
  intro _
  refine GS.cond (t := false) rfl rfl (fun hf => by cases hf) (fun _ => ?_)
  refine GS.skip ?_
  refine GS.seq ?_
  refine bnd_elim hm (fun J G hm => ?_)
  refine GS.open_ ?_
  refine GR.rM (i := 0) 8 (env' := fun _ => [(0,pA B 0),(4,pA ((A 1).x) 0),(92,pA e 0),(96,.slice a 1 b),(97,vI 0),(99,vI 1)]) (by kernel_rfl) (RunsTo.mk [(4,{ act := .load 2 0 0 [] })] [0,4,92,96,97,99] [1,2,3,4,5,6,7,8,9,11] (fun _ => [e = e]) (fun _ => by kernel_rfl) (fun _ => ⟨rfl,trivial⟩)) ?_
  intro _
  refine GR.callG (X := Unit) (i := 8) (g := 68) (args := #[.slice a 1 b,vI 0,vI 1]) (v := fun (_ : Unit) => .slice a 0 b) (own := [.osl a b 3 1 [[vI 1]]]) (ro := []) (es' := fun (_ : Unit) => [.osl a b 3 1 []]) (mem' := fun (_ : Unit) => [(1,.osl a b 3 1 []),(2,.cells e 104 (kc22 c n d o a b)),(3,.cells B 80 (kc29 k u l z f p j q r s e)),(4,.rd k 1 [[vI 1]]),(5,.rd l 7 [(kc19)]),(6,.rd f 5 [(kc24)]),(7,.rd j 4 [(kc26 m)]),(8,.rd c 1 [[.int .u8 120]]),(9,.rd d 1 [[.int .u8 120]]),(11,.cells ((A 1).x) 68 (kc13))]) (env' := fun (_ : Unit) => [(0,pA B 0),(4,pA ((A 1).x) 0),(92,pA e 0),(100,.slice a 0 b)]) [1] [1] [0,4,92,100] [1,2,3,4,5,6,7,8,9,11] false (by kernel_rfl) (by kernel_rfl) (by kernel_rfl) (by kernel_rfl) (by kernel_rfl) (fun _ => rfl) (fun _ _ => rfl) trivial (by rintro _; kernel_rfl) (by rintro _; kernel_rfl) ((by have h1 := w_slices_Delete___int_int_ F a b E G; exact h1)) ?_
  rintro _
  refine GR.ru (i := 9) 3 (env' := fun _ => [(0,pA B 0),(4,pA ((A 1).x) 0)]) (mem' := fun _ => [(1,.osl a b 3 1 []),(2,.cells e 104 (kc39 c n d o a b)),(3,.cells B 80 (kc29 k u l z f p j q r s e)),(4,.rd k 1 [[vI 1]]),(5,.rd l 7 [(kc19)]),(6,.rd f 5 [(kc24)]),(7,.rd j 4 [(kc26 m)]),(8,.rd c 1 [[.int .u8 120]]),(9,.rd d 1 [[.int .u8 120]]),(11,.cells ((A 1).x) 68 (kc13))]) (by kernel_rfl) (RunsTo.mk [(11,{ act := .store 0 0 [],key := some 2 })] [0,4] [1,2,3,4,5,6,7,8,9,11] (fun _ => [e = e,oC (.slice a 0 b)]) (fun _ => by kernel_rfl) (fun _ => ⟨rfl,rfl,trivial⟩)) ?_
  intro _
  refine GR.dn (by kernel_rfl) ?_
  refine GS.seq ?_
  refine bnd_elim hm (fun K H hm => ?_)
  refine GS.open_ ?_
  refine GR.rM (i := 0) 3 (env' := fun _ => [(4,pA ((A 1).x) 0),(103,pA B 0),(104,pA B 0),(105,.agg ((kc13)).toArray)]) (by kernel_rfl) (RunsTo.mk [] [4,103,104,105] [1,2,3,4,5,6,7,8,9,11] (fun _ => []) (fun _ => by kernel_rfl) (fun _ => trivial)) ?_
  intro _
  refine GR.callG (X := Option Addr × Nat) (i := 3) (g := 69) (args := #[pA B 0,.agg ((kc13)).toArray]) (v := fun ⟨C,D⟩ => .agg ((kc46 C D)).toArray) (own := [.cells B 80 (kc29 k u l z f p j q r s e)]) (ro := [.rd k 1 [[vI 1]],.rd l 7 [(kc19)],.rd f 5 [(kc24)],.rd j 4 [(kc26 m)],.rd c 1 [[.int .u8 120]],.rd d 1 [[.int .u8 120]],.rd a 1 [],.rd (some ⟨e,0,none⟩) 61 [(kc39 c n d o a b)]]) (es' := fun ⟨C,D⟩ => [.cells B 80 (kc28 k u l z f p j q r s),.osl C D 65 46 [(kc45)]]) (mem' := fun ⟨C,D⟩ => [(1,.osl a b 3 1 []),(2,.cells e 104 (kc39 c n d o a b)),(3,.cells B 80 (kc28 k u l z f p j q r s)),(4,.rd k 1 [[vI 1]]),(5,.rd l 7 [(kc19)]),(6,.rd f 5 [(kc24)]),(7,.rd j 4 [(kc26 m)]),(8,.rd c 1 [[.int .u8 120]]),(9,.rd d 1 [[.int .u8 120]]),(11,.cells ((A 1).x) 68 (kc13)),(12,.osl C D 65 46 [(kc45)])]) (env' := fun ⟨C,D⟩ => [(4,pA ((A 1).x) 0),(103,pA B 0),(106,.agg ((kc46 C D)).toArray)]) [3] [3,12] [4,103,106] [1,2,3,4,5,6,7,8,9,11,12] false (by kernel_rfl) (by kernel_rfl) (by kernel_rfl) (by kernel_rfl) (by kernel_rfl) (fun _ => rfl) (fun _ _ => rfl) ⟨(.inl ⟨4,_,rfl,rfl,Cov.refl _,fun h => by cases h⟩),(.inl ⟨5,_,rfl,rfl,Cov.refl _,fun h => by cases h⟩),(.inl ⟨6,_,rfl,rfl,Cov.refl _,fun h => by cases h⟩),(.inl ⟨7,_,rfl,rfl,Cov.refl _,fun h => by cases h⟩),(.inl ⟨8,_,rfl,rfl,Cov.refl _,fun h => by cases h⟩),(.inl ⟨9,_,rfl,rfl,Cov.refl _,fun h => by cases h⟩),(.inl ⟨1,_,rfl,rfl,Cov.osl_rd,fun h => by cases h⟩),(.inl ⟨2,_,rfl,rfl,Cov.cells_rd,fun h => by cases h⟩),trivial⟩ (by rintro ⟨C,D⟩; kernel_rfl) (by rintro ⟨C,D⟩; kernel_rfl) ((by have h1 := w___primary_Machine__done_2 F B k u l z f p j q m r s e c n d o a b H; exact h1)) ?_
  rintro ⟨C,D⟩
  refine bnd_elim hm (fun L I hm => ?_)
  refine GR.ru (i := 4) 2 (env' := fun _ => [(4,pA ((A 1).x) 0)]) (mem' := fun _ => [(1,.osl a b 3 1 []),(2,.cells e 104 (kc39 c n d o a b)),(3,.cells B 80 (kc28 k u l z f p j q r s)),(4,.rd k 1 [[vI 1]]),(5,.rd l 7 [(kc19)]),(6,.rd f 5 [(kc24)]),(7,.rd j 4 [(kc26 m)]),(8,.rd c 1 [[.int .u8 120]]),(9,.rd d 1 [[.int .u8 120]]),(11,.cells ((A 1).x) 68 (kc46 C D)),(12,.osl C D 65 46 [(kc45)])]) (by kernel_rfl) (RunsTo.mk [(4,{ act := .call [3,4,5,6,7,12] (.agg ((kc46 C D)).toArray) }),(5,{ act := .store 0 0 [],key := some 11 })] [4] [1,2,3,4,5,6,7,8,9,11,12] (fun _ => [CallOK Tryz.prog 46 #[pA B 0,.agg ((kc46 C D)).toArray] (.agg ((kc46 C D)).toArray) [some (.cells B 80 (kc28 k u l z f p j q r s)),some (.rd k 1 [[vI 1]]),some (.rd l 7 [(kc19)]),some (.rd f 5 [(kc24)]),some (.rd j 4 [(kc26 m)]),some (.osl C D 65 46 [(kc45)])],(A 1).x = (A 1).x,oC (.agg ((kc46 C D)).toArray)]) (fun _ => by kernel_rfl) (fun _ => ⟨(by have h1 := w___primary_Machine__begin_2 F B k u l z f p j q m r s C D I; exact h1.ok ⟨(.inl ⟨.rd k 1 [[vI 1]],(.tail _ (.head _)),Cov.refl _⟩),(.inl ⟨.rd l 7 [(kc19)],(.tail _ (.tail _ (.head _))),Cov.refl _⟩),(.inl ⟨.rd f 5 [(kc24)],(.tail _ (.tail _ (.tail _ (.head _)))),Cov.refl _⟩),(.inl ⟨.rd j 4 [(kc26 m)],(.tail _ (.tail _ (.tail _ (.tail _ (.head _))))),Cov.refl _⟩),(.inl ⟨.cells B 80 (kc28 k u l z f p j q r s),.head _,Cov.cells_rd⟩),(.inl ⟨.osl C D 65 46 [(kc45)],(.tail _ (.tail _ (.tail _ (.tail _ (.tail _ (.head _)))))),Cov.osl_rd⟩),trivial⟩),rfl,rfl,trivial⟩)) ?_
  intro _
  refine GR.dn (by kernel_rfl) ?_
  have hy := Option.some.inj hm
  subst hy
  refine GS.ret (fn := Tryz.f43) [11] [.agg ((kc46 C D)).toArray] [(A 1).x = (A 1).x] rfl Tryz.func43 (by kernel_rfl) ⟨rfl,trivial⟩ (fun w' hs => ?_)
  exact ⟨⟨r,s,C,D⟩,rfl,hs.turnedG (ks := [1,2,3,12]) rfl rfl⟩

theorem w___primary_Machine__Step_2 (F : Nat) (z : Nat) (l : Option Addr) (s : Nat) (m : Option Addr) (u : Nat) (e : Option Addr) (p : Nat) (f : Option Addr) (q : Nat) (o : Int) (A : Option Addr) (B : Nat) (n : Nat) (c : Option Addr) (j : Nat) (d : Option Addr) (k : Nat) (b : Option Addr) (a : Nat) (G : 1 ≤ a) {y : Unit} (hm : m___primary_Machine__Step_2 F o = some y) : CallG Tryz.prog 16 #[pA z 0,.agg ((kc38)).toArray] (X := Option Addr × Nat × Option Addr × Nat) (fun ⟨x0,x1,x2,x3⟩ => .agg ((kc46 x2 x3)).toArray) [.osl b a 3 1 [[vI 1]],.cells n 104 (kc22 c j d k b a),.cells z 80 (kc29 l s m u e p f q A B n)] [.rd l 1 [[vI 1]],.rd m 7 [(kc19)],.rd e 5 [(kc24)],.rd f 4 [(kc26 o)],.rd c 1 [[.int .u8 120]],.rd d 1 [[.int .u8 120]]] (fun ⟨x0,x1,x2,x3⟩ => [.osl b a 3 1 [],.cells n 104 (kc39 c j d k b a),.cells z 80 (kc28 l s m u e p f q x0 x1),.osl x2 x3 65 46 [(kc45)]]) := by
  intro w hg
  rw [m___primary_Machine__Step_2] at hm
  refine GS.start (S := mayT [.osl b a 3 1 [[vI 1]],.cells n 104 (kc22 c j d k b a),.cells z 80 (kc29 l s m u e p f q A B n)] [.rd l 1 [[vI 1]],.rd m 7 [(kc19)],.rd e 5 [(kc24)],.rd f 4 [(kc26 o)],.rd c 1 [[.int .u8 120]],.rd d 1 [[.int .u8 120]]]) (mem := [(1,.osl b a 3 1 [[vI 1]]),(2,.cells n 104 (kc22 c j d k b a)),(3,.cells z 80 (kc29 l s m u e p f q A B n)),(4,.rd l 1 [[vI 1]]),(5,.rd m 7 [(kc19)]),(6,.rd e 5 [(kc24)]),(7,.rd f 4 [(kc26 o)]),(8,.rd c 1 [[.int .u8 120]]),(9,.rd d 1 [[.int .u8 120]])]) Tryz.func16 rfl Tryz.ntmps16 (Nat.le_of_ble_eq_true rfl) (hg.start rfl) ?_
  refine GS.conv (env' := [(0,pA z 0),(1,.agg ((kc38)).toArray)]) rfl rfl ?_
  refine GS.seq ?_
  refine GS.tz (fun r => [(0,pA z 0),(3,pA ((r 0).x) 0),(4,pA ((r 1).x) 0)]) (fun r => [(1,.osl b a 3 1 [[vI 1]]),(2,.cells n 104 (kc22 c j d k b a)),(3,.cells z 80 (kc29 l s m u e p f q A B n)),(4,.rd l 1 [[vI 1]]),(5,.rd m 7 [(kc19)]),(6,.rd e 5 [(kc24)]),(7,.rd f 4 [(kc26 o)]),(8,.rd c 1 [[.int .u8 120]]),(9,.rd d 1 [[.int .u8 120]]),(10,.cells ((r 0).x) 65 (kc38)),(11,.cells ((r 1).x) 68 (kc13))]) [(0,{ act := .new .var,key := some 10 }),(1,{ act := .new .var,key := some 11 })] ?_
  intro r
  refine GS.seq ?_
  refine GS.seq ?_
  refine GS.rM (env' := fun _ => [(0,pA z 0),(3,pA ((r 0).x) 0),(4,pA ((r 1).x) 0),(32,.bool false)]) (RunsTo.mkd [(6,{ act := .load 3 0 0 [] }),(11,{ act := .load 10 0 0 [] }),(15,{ act := .load 3 0 0 [] }),(17,{ act := .eq,sp := some (.bool false) }),(21,{ act := .load 10 0 0 [] }),(25,{ act := .load 3 0 0 [] }),(26,{ act := .eq,sp := some (.bool false) })] [0,3,4,32] [1,2,3,4,5,6,7,8,9,10,11] (fun _ => [z = z,(r 0).x = (r 0).x,z = z,((.bool (!(S_api_Node.beq (S_api_Node.mk 2 0) (S_api_Node.mk 2 0)))) : Value) = .bool false,(r 0).x = (r 0).x,z = z,((.bool (!(S_api_Pg.beq (S_api_Pg.mk 1 0) (S_api_Pg.mk 1 0)))) : Value) = .bool false]) (by kernel_rfl) (by kernel_rfl) (fun _ => by kernel_rfl) (fun _ => ⟨rfl,rfl,rfl,(by kernel_rfl),rfl,rfl,(by kernel_rfl),trivial⟩)) ?_
  intro _
  refine GS.cond (t := false) rfl rfl (fun hf => by cases hf) (fun _ => ?_)
  refine GS.skip ?_
  refine GS.seq ?_
  refine GS.seq ?_
  refine GS.tgM (fun _ => [(0,pA z 0),(3,pA ((r 0).x) 0),(4,pA ((r 1).x) 0),(35,vI 33)]) [(1,{ act := .load 10 0 0 [] })] (fun _ => [(r 0).x = (r 0).x]) (fun _ => ⟨rfl,trivial⟩) ?_
  intro _
  refine GS.block ?_
  refine GS.seq ?_
  refine GS.tzM (fun _ => [(0,pA z 0),(3,pA ((r 0).x) 0),(4,pA ((r 1).x) 0),(35,vI 33),(36,.bool false)]) [] ?_
  intro _
  refine GS.cond (t := false) rfl rfl (fun hf => by cases hf) (fun _ => ?_)
  refine GS.seq ?_
  refine GS.seq ?_
  refine GS.tzM (fun _ => [(0,pA z 0),(3,pA ((r 0).x) 0),(4,pA ((r 1).x) 0),(35,vI 33),(41,.bool true)]) [] ?_
  intro _
  refine GS.cond (t := true) rfl rfl (fun _ => ?_) (fun hf => by cases hf)
  refine GS.skip ?_
  refine GS.cond (t := true) rfl rfl (fun _ => ?_) (fun hf => by cases hf)
  refine GS.seq ?_
  refine bnd_elim hm (fun y7 e8 hm => ?_)
  refine GS.open_ ?_
  refine GR.ru (i := 0) 2 (env' := fun _ => [(4,pA ((r 1).x) 0),(44,pA z 0),(45,.agg ((kc38)).toArray)]) (mem' := fun _ => [(1,.osl b a 3 1 [[vI 1]]),(2,.cells n 104 (kc22 c j d k b a)),(3,.cells z 80 (kc29 l s m u e p f q A B n)),(4,.rd l 1 [[vI 1]]),(5,.rd m 7 [(kc19)]),(6,.rd e 5 [(kc24)]),(7,.rd f 4 [(kc26 o)]),(8,.rd c 1 [[.int .u8 120]]),(9,.rd d 1 [[.int .u8 120]]),(11,.cells ((r 1).x) 68 (kc13))]) (by kernel_rfl) (RunsTo.mk [(1,{ act := .load 10 0 0 [] })] [4,44,45] [1,2,3,4,5,6,7,8,9,11] (fun _ => [(r 0).x = (r 0).x]) (fun _ => by kernel_rfl) (fun _ => ⟨rfl,trivial⟩)) ?_
  intro _
  refine GR.callG (X := Option Addr × Nat × Option Addr × Nat) (i := 2) (g := 43) (args := #[pA z 0,.agg ((kc38)).toArray]) (v := fun ⟨x9,E,C,D⟩ => .agg ((kc46 C D)).toArray) (own := [.osl b a 3 1 [[vI 1]],.cells n 104 (kc22 c j d k b a),.cells z 80 (kc29 l s m u e p f q A B n)]) (ro := [.rd l 1 [[vI 1]],.rd m 7 [(kc19)],.rd e 5 [(kc24)],.rd f 4 [(kc26 o)],.rd c 1 [[.int .u8 120]],.rd d 1 [[.int .u8 120]]]) (es' := fun ⟨x9,E,C,D⟩ => [.osl b a 3 1 [],.cells n 104 (kc39 c j d k b a),.cells z 80 (kc28 l s m u e p f q x9 E),.osl C D 65 46 [(kc45)]]) (mem' := fun ⟨x9,E,C,D⟩ => [(1,.osl b a 3 1 []),(2,.cells n 104 (kc39 c j d k b a)),(3,.cells z 80 (kc28 l s m u e p f q x9 E)),(4,.rd l 1 [[vI 1]]),(5,.rd m 7 [(kc19)]),(6,.rd e 5 [(kc24)]),(7,.rd f 4 [(kc26 o)]),(8,.rd c 1 [[.int .u8 120]]),(9,.rd d 1 [[.int .u8 120]]),(11,.cells ((r 1).x) 68 (kc13)),(12,.osl C D 65 46 [(kc45)])]) (env' := fun ⟨x9,E,C,D⟩ => [(4,pA ((r 1).x) 0),(46,.agg ((kc46 C D)).toArray)]) [1,2,3] [1,2,3,12] [4,46] [1,2,3,4,5,6,7,8,9,11,12] false (by kernel_rfl) (by kernel_rfl) (by kernel_rfl) (by kernel_rfl) (by kernel_rfl) (fun _ => rfl) (fun _ _ => rfl) ⟨(.inl ⟨4,_,rfl,rfl,Cov.refl _,fun h => by cases h⟩),(.inl ⟨5,_,rfl,rfl,Cov.refl _,fun h => by cases h⟩),(.inl ⟨6,_,rfl,rfl,Cov.refl _,fun h => by cases h⟩),(.inl ⟨7,_,rfl,rfl,Cov.refl _,fun h => by cases h⟩),(.inl ⟨8,_,rfl,rfl,Cov.refl _,fun h => by cases h⟩),(.inl ⟨9,_,rfl,rfl,Cov.refl _,fun h => by cases h⟩),trivial⟩ (by rintro ⟨x9,E,C,D⟩; kernel_rfl) (by rintro ⟨x9,E,C,D⟩; kernel_rfl) ((by have h1 := w___primary_Machine__acked F z l s m u e p f q o A B n c j d k b a G e8; exact h1)) ?_
  rintro ⟨x9,E,C,D⟩
  refine GR.ru (i := 3) 1 (env' := fun _ => [(4,pA ((r 1).x) 0)]) (mem' := fun _ => [(1,.osl b a 3 1 []),(2,.cells n 104 (kc39 c j d k b a)),(3,.cells z 80 (kc28 l s m u e p f q x9 E)),(4,.rd l 1 [[vI 1]]),(5,.rd m 7 [(kc19)]),(6,.rd e 5 [(kc24)]),(7,.rd f 4 [(kc26 o)]),(8,.rd c 1 [[.int .u8 120]]),(9,.rd d 1 [[.int .u8 120]]),(11,.cells ((r 1).x) 68 (kc46 C D)),(12,.osl C D 65 46 [(kc45)])]) (by kernel_rfl) (RunsTo.mk [(3,{ act := .store 0 0 [],key := some 11 })] [4] [1,2,3,4,5,6,7,8,9,11,12] (fun _ => [(r 1).x = (r 1).x,oC (.agg ((kc46 C D)).toArray)]) (fun _ => by kernel_rfl) (fun _ => ⟨rfl,rfl,trivial⟩)) ?_
  intro _
  refine GR.dn (by kernel_rfl) ?_
  have hy := Option.some.inj hm
  subst hy
  refine GS.ret (fn := Tryz.f16) [11] [.agg ((kc46 C D)).toArray] [(r 1).x = (r 1).x] rfl Tryz.func16 (by kernel_rfl) ⟨rfl,trivial⟩ (fun w' hs => ?_)
  exact ⟨⟨x9,E,C,D⟩,rfl,hs.turnedG (ks := [1,2,3,12]) rfl rfl⟩

theorem w___primary_Machine__Idle_2 (F : Nat) (l : Nat) (c : Option Addr) (i : Nat) (d : Option Addr) (j : Nat) (a : Option Addr) (e : Nat) (b : Option Addr) (f : Nat) (k : Int) (g : Option Addr) (h : Nat) {y : Unit} (hm : m___primary_Machine__Idle_2 F k = some y) : CallG Tryz.prog 20 #[pA l 0] (X := Unit) (fun (_ : Unit) => .bool true) [] [.rd c 1 [[vI 1]],.rd d 7 [(kc19)],.rd a 5 [(kc24)],.rd b 4 [(kc26 k)],.rd (some ⟨l,0,none⟩) 17 [(kc28 c i d j a e b f g h)]] (fun (_ : Unit) => []) := by
  intro w hg
  rw [m___primary_Machine__Idle_2] at hm
  refine GS.start (S := mayT [] [.rd c 1 [[vI 1]],.rd d 7 [(kc19)],.rd a 5 [(kc24)],.rd b 4 [(kc26 k)],.rd (some ⟨l,0,none⟩) 17 [(kc28 c i d j a e b f g h)]]) (mem := [(1,.rd c 1 [[vI 1]]),(2,.rd d 7 [(kc19)]),(3,.rd a 5 [(kc24)]),(4,.rd b 4 [(kc26 k)]),(5,.rd (some ⟨l,0,none⟩) 17 [(kc28 c i d j a e b f g h)])]) Tryz.func20 rfl Tryz.ntmps20 (Nat.le_of_ble_eq_true rfl) (hg.start rfl) ?_
  refine GS.conv (env' := [(0,pA l 0)]) rfl rfl ?_
  refine GS.seq ?_
  refine GS.tzM (fun _ => [(0,pA l 0)]) [] ?_
  intro _
  refine GS.seq ?_
  refine GS.tg (fun _ => [(2,.bool true)]) (fun _ => []) [(6,{ act := .load 5 0 16 [vI 1,vI 0,vI 3,vI 0,vI 9,.slice c 1 i,vI 3,vI 0,vI 0,.slice d 1 j,.slice a 1 e,.slice b 1 f,.slice g 0 h,.pointer none,.bool false,vI 0,.bool true] }),(12,{ act := .load 5 0 13 [vI 1,vI 0,vI 3,vI 0,vI 9,.slice c 1 i,vI 3,vI 0,vI 0,.slice d 1 j,.slice a 1 e,.slice b 1 f,.slice g 0 h,.pointer none,.bool false,vI 0,.bool true] })] (fun _ => [l = blk (some ⟨l,0,none⟩),16 = offs (some ⟨l,0,none⟩) + (0 * 17 + 16),([(kc28 c i d j a e b f g h)] : List (List Value))[0]? = some [vI 1,vI 0,vI 3,vI 0,vI 9,.slice c 1 i,vI 3,vI 0,vI 0,.slice d 1 j,.slice a 1 e,.slice b 1 f,.slice g 0 h,.pointer none,.bool false,vI 0,.bool true],l = blk (some ⟨l,0,none⟩),13 = offs (some ⟨l,0,none⟩) + (0 * 17 + 13),([(kc28 c i d j a e b f g h)] : List (List Value))[0]? = some [vI 1,vI 0,vI 3,vI 0,vI 9,.slice c 1 i,vI 3,vI 0,vI 0,.slice d 1 j,.slice a 1 e,.slice b 1 f,.slice g 0 h,.pointer none,.bool false,vI 0,.bool true]]) (fun _ => ⟨rfl,rfl,rfl,rfl,rfl,rfl,trivial⟩) ?_
  intro _
  have hy := Option.some.inj hm
  subst hy
  refine GS.ret (fn := Tryz.f20) [0] [.bool true] [] rfl Tryz.func20 (by kernel_rfl) trivial (fun w' hs => ?_)
  exact ⟨(),rfl,hs.turnedG (ks := []) rfl rfl⟩

end Go.Proofs.YtjnbkhnebmlilaaGreat
