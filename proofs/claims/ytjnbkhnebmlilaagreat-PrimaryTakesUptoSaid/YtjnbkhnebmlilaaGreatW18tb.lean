/-
  CHAPTER 18t: the functions do what their models say (2).
-/
import Derived.Test.YtjnbkhnebmlilaaGreatE18t
import Derived.Test.YtjnbkhnebmlilaaGreatW18ta
set_option linter.unusedVariables false
set_option linter.unusedSimpArgs false
set_option maxRecDepth 100000
set_option maxHeartbeats 8000000
namespace Go.Proofs.YtjnbkhnebmlilaaGreat
open Go Go.RowKit Sx

theorem w_primary_New (F : Nat) (b : Option Addr) (e : Nat) {y : Unit} (hm : m_primary_New F = some y) : CallG Tryz.prog 15 #[.agg #[vI 1,vI 0],vI 3,vI 0,vI 9,.slice b 2 e,.agg ((kc5)).toArray] (X := Nat × Option Addr × Nat × Option Addr × Nat × Option Addr × Nat × Option Addr × Nat) (fun ⟨x0,x1,x2,x3,x4,x5,x6,x7,x8⟩ => .tuple #[pA x0 0,vI 0]) [] [.rd b 1 [[vI 0],[vI 1]]] (fun ⟨x0,x1,x2,x3,x4,x5,x6,x7,x8⟩ => [.cells x0 80 (kc10 x1 x2 x3 x4 x5 x6 x7 x8),.osl x1 x2 3 1 [[vI 1]],.osl x3 x4 31 7 [],.osl x5 x6 94 5 [],.osl x7 x8 91 4 []]) := by
  intro w hg
  rw [m_primary_New] at hm
  refine GS.start (S := mayT [] [.rd b 1 [[vI 0],[vI 1]]]) (mem := [(1,.rd b 1 [[vI 0],[vI 1]])]) Tryz.func15 rfl Tryz.ntmps15 (Nat.le_of_ble_eq_true rfl) (hg.start rfl) ?_
  refine GS.conv (env' := [(0,.agg #[vI 1,vI 0]),(1,vI 3),(2,vI 0),(3,vI 9),(4,.slice b 2 e),(5,.agg ((kc5)).toArray)]) rfl rfl ?_
  refine GS.seq ?_
  refine GS.tz (fun d => [(1,vI 3),(2,vI 0),(3,vI 9),(4,.slice b 2 e),(6,pA ((d 0).x) 0),(11,pA ((d 1).x) 0)]) (fun d => [(1,.rd b 1 [[vI 0],[vI 1]]),(2,.cells ((d 0).x) 51 [vI 1,vI 0]),(3,.cells ((d 1).x) 28 (kc5))]) [(0,{ act := .new .var,key := some 2 }),(1,{ act := .new .var,key := some 3 })] ?_
  intro d
  refine GS.seq ?_
  refine GS.seq ?_
  refine bnd_elim hm (fun y3 e4 hm => ?_)
  refine bnd_elim hm (fun y5 e6 hm => ?_)
  refine GS.tgM (fun _ => [(1,vI 3),(2,vI 0),(3,vI 9),(4,.slice b 2 e),(6,pA ((d 0).x) 0),(11,pA ((d 1).x) 0),(25,.bool false)]) [(2,{ act := .call [1] (.bool true) }),(5,{ act := .load 3 0 0 [] }),(6,{ act := .call [] (vI 0) })] (fun _ => [CallOK Tryz.prog 40 #[.slice b 2 e,vI 0] (.bool true) [some (.rd b 1 [[vI 0],[vI 1]])],(d 1).x = (d 1).x,CallOK Tryz.prog 41 #[.agg ((kc5)).toArray] (vI 0) []]) (fun _ => ⟨(by have h1 := w_slices_Contains___int_int_ F b e e4; exact h1.ok ⟨(.inl ⟨.rd b 1 [[vI 0],[vI 1]],.head _,Cov.refl _⟩),trivial⟩),rfl,(by have h1 := w_pglog_Check F  e6; exact h1.ok trivial),trivial⟩) ?_
  intro _
  refine GS.cond (t := false) rfl rfl (fun hf => by cases hf) (fun _ => ?_)
  refine GS.skip ?_
  refine GS.seq ?_
  refine GS.tzM (fun _ => [(1,vI 3),(2,vI 0),(3,vI 9),(4,.slice b 2 e),(6,pA ((d 0).x) 0),(11,pA ((d 1).x) 0),(14,.slice none 0 0)]) [] ?_
  intro _
  refine GS.seq ?_
  refine GS.seq ?_
  refine GS.tzM (fun _ => [(1,vI 3),(2,vI 0),(3,vI 9),(6,pA ((d 0).x) 0),(11,pA ((d 1).x) 0),(14,.slice none 0 0),(26,.slice b 2 e),(27,vI 2),(28,vI 0)]) [] ?_
  intro _
  refine GS.block ?_
  refine GS.loop ?_
  refine GS.seq ?_
  refine GS.tzM (fun _ => [(1,vI 3),(2,vI 0),(3,vI 9),(6,pA ((d 0).x) 0),(11,pA ((d 1).x) 0),(14,.slice none 0 0),(26,.slice b 2 e),(27,vI 2),(28,vI 0),(29,.bool true)]) [] ?_
  intro _
  refine GS.seq ?_
  refine GS.cond (t := true) rfl rfl (fun _ => ?_) (fun hf => by cases hf)
  refine GS.skip ?_
  refine GS.seq ?_
  refine GS.block ?_
  refine GS.seq ?_
  refine GS.tgM (fun _ => [(1,vI 3),(2,vI 0),(3,vI 9),(6,pA ((d 0).x) 0),(11,pA ((d 1).x) 0),(14,.slice none 0 0),(16,vI 0),(26,.slice b 2 e),(27,vI 2),(28,vI 0)]) [(0,{ act := .idx 1 0 }),(1,{ act := .load 1 0 0 [vI 0] })] (fun _ => [b = b,2 = ([[vI 0],[vI 1]] : List (List Value)).length,(0 : Int) = (0 : Int),0 < 2,blk b = blk b,offs b + 0 * 1 = offs b + (0 * 1 + 0),([[vI 0],[vI 1]] : List (List Value))[0]? = some [vI 0]]) (fun _ => ⟨rfl,rfl,rfl,(Nat.le_of_ble_eq_true rfl),rfl,rfl,rfl,trivial⟩) ?_
  intro _
  refine GS.seq ?_
  refine GS.tzM (fun _ => [(1,vI 3),(2,vI 0),(3,vI 9),(6,pA ((d 0).x) 0),(11,pA ((d 1).x) 0),(14,.slice none 0 0),(16,vI 0),(26,.slice b 2 e),(27,vI 2),(28,vI 0),(34,.bool false)]) [] ?_
  intro _
  refine GS.cond (t := false) rfl rfl (fun hf => by cases hf) (fun _ => ?_)
  refine GS.skip ?_
  refine GS.inBlock ?_
  refine GS.tzM (fun _ => [(1,vI 3),(2,vI 0),(3,vI 9),(6,pA ((d 0).x) 0),(11,pA ((d 1).x) 0),(14,.slice none 0 0),(26,.slice b 2 e),(27,vI 2),(28,vI 1)]) [] ?_
  intro _
  refine GS.inLoop ?_
  refine GS.seq ?_
  refine GS.tzM (fun _ => [(1,vI 3),(2,vI 0),(3,vI 9),(6,pA ((d 0).x) 0),(11,pA ((d 1).x) 0),(14,.slice none 0 0),(26,.slice b 2 e),(27,vI 2),(28,vI 1),(29,.bool true)]) [] ?_
  intro _
  refine GS.seq ?_
  refine GS.cond (t := true) rfl rfl (fun _ => ?_) (fun hf => by cases hf)
  refine GS.skip ?_
  refine GS.seq ?_
  refine GS.block ?_
  refine GS.seq ?_
  refine GS.tgM (fun _ => [(1,vI 3),(2,vI 0),(3,vI 9),(6,pA ((d 0).x) 0),(11,pA ((d 1).x) 0),(14,.slice none 0 0),(16,vI 1),(26,.slice b 2 e),(27,vI 2),(28,vI 1)]) [(0,{ act := .idx 1 1 }),(1,{ act := .load 1 1 0 [vI 1] })] (fun _ => [b = b,2 = ([[vI 0],[vI 1]] : List (List Value)).length,(1 : Int) = (1 : Int),1 < 2,blk b = blk b,offs b + 1 * 1 = offs b + (1 * 1 + 0),([[vI 0],[vI 1]] : List (List Value))[1]? = some [vI 1]]) (fun _ => ⟨rfl,rfl,rfl,(Nat.le_of_ble_eq_true rfl),rfl,rfl,rfl,trivial⟩) ?_
  intro _
  refine GS.seq ?_
  refine GS.tzM (fun _ => [(1,vI 3),(2,vI 0),(3,vI 9),(6,pA ((d 0).x) 0),(11,pA ((d 1).x) 0),(14,.slice none 0 0),(16,vI 1),(26,.slice b 2 e),(27,vI 2),(28,vI 1),(34,.bool true)]) [] ?_
  intro _
  refine GS.cond (t := true) rfl rfl (fun _ => ?_) (fun hf => by cases hf)
  refine GS.tg (fun c => [(1,vI 3),(2,vI 0),(3,vI 9),(6,pA ((d 0).x) 0),(11,pA ((d 1).x) 0),(14,.slice ((c 3).ob) 1 ((c 3).cap)),(26,.slice b 2 e),(27,vI 2),(28,vI 1)]) (fun c => [(1,.rd b 1 [[vI 0],[vI 1]]),(2,.cells ((d 0).x) 51 [vI 1,vI 0]),(3,.cells ((d 1).x) 28 (kc5)),(5,.osl ((c 3).ob) ((c 3).cap) 3 1 ([[vI 1]] : List (List Value)))]) [(2,{ act := .new (.row 1 1),key := some 4 }),(3,{ act := .app (some 4),key := some 5,spf := some (fun f => .slice (f.ob) 1 (f.cap)) })] (fun c => [(some (Addr.mk (c 2).x 0 none)) = (some (Addr.mk (c 2).x 0 none)),1 = ([[vI 1]] : List (List Value)).length,0 = 0,0 = 0,([[vI 1]] : List (List Value)).length * (8 + 1) ≤ 70368744177664,((.slice ((c 3).ob) (0 + ([[vI 1]] : List (List Value)).length) ((c 3).cap)) : Value) = .slice ((c 3).ob) 1 ((c 3).cap)]) (fun c => ⟨rfl,rfl,rfl,rfl,(show 1 * (8 + 1) ≤ 70368744177664 by decide),rfl,trivial⟩) ?_
  intro c
  refine GS.conv (mem' := [(1,.rd b 1 [[vI 0],[vI 1]]),(2,.cells ((d 0).x) 51 [vI 1,vI 0]),(3,.cells ((d 1).x) 28 (kc5)),(5,.osl ((c 3).ob) ((c 3).cap) 3 1 [[vI 1]])]) rfl (congrArg (fun rr : List (List Value) => ([(1,.rd b 1 [[vI 0],[vI 1]]),(2,.cells ((d 0).x) 51 [vI 1,vI 0]),(3,.cells ((d 1).x) 28 (kc5)),(5,.osl ((c 3).ob) ((c 3).cap) 3 1 rr)] : List (Nat × Ent))) (show ([[vI 1]] : List (List Value)) = ([[vI 1]] : List (List Value)) from rfl)) ?_
  refine GS.inBlock ?_
  refine GS.tzM (fun _ => [(1,vI 3),(2,vI 0),(3,vI 9),(6,pA ((d 0).x) 0),(11,pA ((d 1).x) 0),(14,.slice ((c 3).ob) 1 ((c 3).cap)),(26,.slice b 2 e),(27,vI 2),(28,vI 2)]) [] ?_
  intro _
  refine GS.inLoop ?_
  refine GS.seq ?_
  refine GS.tzM (fun _ => [(1,vI 3),(2,vI 0),(3,vI 9),(6,pA ((d 0).x) 0),(11,pA ((d 1).x) 0),(14,.slice ((c 3).ob) 1 ((c 3).cap)),(26,.slice b 2 e),(27,vI 2),(28,vI 2),(29,.bool false)]) [] ?_
  intro _
  refine GS.seq ?_
  refine GS.cond (t := false) rfl rfl (fun hf => by cases hf) (fun _ => ?_)
  refine GS.exit rfl ?_
  refine GS.seq ?_
  refine bnd_elim hm (fun h g hm => ?_)
  refine GS.region (env' := fun a => [(12,pA ((a 8).x) 0),(13,vI 0)]) (mem' := fun a => [(5,.osl ((c 3).ob) ((c 3).cap) 3 1 [[vI 1]]),(9,bag [.osl (((a 6).xs.getD 0 (none,0)).1) (((a 6).xs.getD 1 (none,0)).2) 31 7 [],.osl (((a 6).xs.getD 2 (none,0)).1) (((a 6).xs.getD 3 (none,0)).2) 94 5 [],.osl (((a 6).xs.getD 4 (none,0)).1) (((a 6).xs.getD 5 (none,0)).2) 91 4 []]),(10,.cells ((a 8).x) 80 (kc10 ((c 3).ob) ((c 3).cap) (((a 6).xs.getD 0 (none,0)).1) (((a 6).xs.getD 1 (none,0)).2) (((a 6).xs.getD 2 (none,0)).1) (((a 6).xs.getD 3 (none,0)).2) (((a 6).xs.getD 4 (none,0)).1) (((a 6).xs.getD 5 (none,0)).2)))]) (RunsTo.mkd [(0,{ act := .load 2 0 0 [] }),(5,{ act := .load 3 0 0 [] }),(6,{ act := .calln [] (fun f => .agg ((kc9 (f.xs.getD 0 (none,0)).1 (f.xs.getD 1 (none,0)).2 (f.xs.getD 2 (none,0)).1 (f.xs.getD 3 (none,0)).2 (f.xs.getD 4 (none,0)).1 (f.xs.getD 5 (none,0)).2)).toArray) (fun f => bag [.osl (f.xs.getD 0 (none,0)).1 (f.xs.getD 1 (none,0)).2 31 7 [],.osl (f.xs.getD 2 (none,0)).1 (f.xs.getD 3 (none,0)).2 94 5 [],.osl (f.xs.getD 4 (none,0)).1 (f.xs.getD 5 (none,0)).2 91 4 []]),key := some 9 }),(8,{ act := .new .var,key := some 10 })] [12,13] [5,9,10] (fun a => [(d 0).x = (d 0).x,(d 1).x = (d 1).x,CallN Tryz.prog 32 #[.agg ((kc5)).toArray] (fun f => .agg ((kc9 (f.xs.getD 0 (none,0)).1 (f.xs.getD 1 (none,0)).2 (f.xs.getD 2 (none,0)).1 (f.xs.getD 3 (none,0)).2 (f.xs.getD 4 (none,0)).1 (f.xs.getD 5 (none,0)).2)).toArray) (fun f => bag [.osl (f.xs.getD 0 (none,0)).1 (f.xs.getD 1 (none,0)).2 31 7 [],.osl (f.xs.getD 2 (none,0)).1 (f.xs.getD 3 (none,0)).2 94 5 [],.osl (f.xs.getD 4 (none,0)).1 (f.xs.getD 5 (none,0)).2 91 4 []]) []]) (by kernel_rfl) (by kernel_rfl) (fun a => by kernel_rfl) (fun a => ⟨rfl,rfl,(by have h1 := w_pglog_Copy F  g; exact CallG.toNB (efs := fun f => [.osl (f.xs.getD 0 (none,0)).1 (f.xs.getD 1 (none,0)).2 31 7 [],.osl (f.xs.getD 2 (none,0)).1 (f.xs.getD 3 (none,0)).2 94 5 [],.osl (f.xs.getD 4 (none,0)).1 (f.xs.getD 5 (none,0)).2 91 4 []]) h1 trivial (fun x => ⟨0,none,0,[(x.1,0),(none,x.2.1),(x.2.2.1,0),(none,x.2.2.2.1),(x.2.2.2.2.1,0),(none,x.2.2.2.2.2)],fun _ _ => (none,0)⟩) (fun _ => rfl) (fun _ => rfl) (fun _ => rfl)),trivial⟩)) ?_
  intro a
  refine GS.setMem (mem' := [(5,.osl ((c 3).ob) ((c 3).cap) 3 1 [[vI 1]]),(10,.cells ((a 8).x) 80 (kc10 ((c 3).ob) ((c 3).cap) (((a 6).xs.getD 0 (none,0)).1) (((a 6).xs.getD 1 (none,0)).2) (((a 6).xs.getD 2 (none,0)).1) (((a 6).xs.getD 3 (none,0)).2) (((a 6).xs.getD 4 (none,0)).1) (((a 6).xs.getD 5 (none,0)).2))),(11,.osl (((a 6).xs.getD 0 (none,0)).1) (((a 6).xs.getD 1 (none,0)).2) 31 7 []),(12,.osl (((a 6).xs.getD 2 (none,0)).1) (((a 6).xs.getD 3 (none,0)).2) 94 5 []),(13,.osl (((a 6).xs.getD 4 (none,0)).1) (((a 6).xs.getD 5 (none,0)).2) 91 4 [])]) (fun w hw => unbag_mem (k := 9) (nk := [11,12,13]) (keys := [5,10,11,12,13]) hw rfl rfl rfl rfl (by kernel_rfl)) ?_
  have hy := Option.some.inj hm
  subst hy
  refine GS.ret (fn := Tryz.f15) [0,0] [pA ((a 8).x) 0,vI 0] [] rfl Tryz.func15 (by kernel_rfl) trivial (fun w' hs => ?_)
  exact ⟨⟨(a 8).x,(c 3).ob,(c 3).cap,((a 6).xs.getD 0 (none,0)).1,((a 6).xs.getD 1 (none,0)).2,((a 6).xs.getD 2 (none,0)).1,((a 6).xs.getD 3 (none,0)).2,((a 6).xs.getD 4 (none,0)).1,((a 6).xs.getD 5 (none,0)).2⟩,rfl,hs.turnedG (ks := [10,5,11,12,13]) rfl rfl⟩

theorem w_slices_IndexFunc___api_Msg_api_Msg_ (F : Nat) (a1c0b : Nat) (a1c0_40_o : Option Addr) (a1c0_40_c : Nat) {y : Unit} (hm : m_slices_IndexFunc___api_Msg_api_Msg_ F = some y) : CallG Tryz.prog 85 #[.slice none 0 0,.func (.func 64) #[] #[pA a1c0b 0]] (X := Unit) (fun (_ : Unit) => vI (-1)) [] [.rd a1c0_40_o 1 [[.int .u8 120]],.rd (some ⟨a1c0b,0,none⟩) 46 [(kc12 a1c0_40_o a1c0_40_c)]] (fun (_ : Unit) => []) := by
  intro w hg
  rw [m_slices_IndexFunc___api_Msg_api_Msg_] at hm
  refine GS.start (S := mayT [] [.rd a1c0_40_o 1 [[.int .u8 120]],.rd (some ⟨a1c0b,0,none⟩) 46 [(kc12 a1c0_40_o a1c0_40_c)]]) (mem := [(1,.rd a1c0_40_o 1 [[.int .u8 120]]),(2,.rd (some ⟨a1c0b,0,none⟩) 46 [(kc12 a1c0_40_o a1c0_40_c)])]) Tryz.func85 rfl Tryz.ntmps85 (Nat.le_of_ble_eq_true rfl) (hg.start rfl) ?_
  refine GS.conv (env' := [(0,.slice none 0 0),(1,.func (.func 64) #[] #[pA a1c0b 0])]) rfl rfl ?_
  refine GS.seq ?_
  refine GS.tzM (fun _ => [(0,.slice none 0 0),(1,.func (.func 64) #[] #[pA a1c0b 0])]) [] ?_
  intro _
  refine GS.seq ?_
  refine GS.seq ?_
  refine GS.tzM (fun _ => [(0,.slice none 0 0),(1,.func (.func 64) #[] #[pA a1c0b 0]),(7,vI 0),(8,vI 0)]) [] ?_
  intro _
  refine GS.block ?_
  refine GS.loop ?_
  refine GS.seq ?_
  refine GS.tzM (fun _ => [(0,.slice none 0 0),(1,.func (.func 64) #[] #[pA a1c0b 0]),(7,vI 0),(8,vI 0),(9,.bool false)]) [] ?_
  intro _
  refine GS.seq ?_
  refine GS.cond (t := false) rfl rfl (fun hf => by cases hf) (fun _ => ?_)
  refine GS.exit rfl ?_
  refine GS.seq ?_
  refine GS.tz (fun _ => [(4,vI (-1))]) (fun _ => []) [] ?_
  intro _
  have hy := Option.some.inj hm
  subst hy
  refine GS.ret (fn := Tryz.f85) [0] [vI (-1)] [] rfl Tryz.func85 (by kernel_rfl) trivial (fun w' hs => ?_)
  exact ⟨(),rfl,hs.turnedG (ks := []) rfl rfl⟩

theorem w_slices_ContainsFunc___api_Msg_api_Msg_ (F : Nat) (a1c0b : Nat) (a1c0_40_o : Option Addr) (a1c0_40_c : Nat) {y : Unit} (hm : m_slices_ContainsFunc___api_Msg_api_Msg_ F = some y) : CallG Tryz.prog 66 #[.slice none 0 0,.func (.func 64) #[] #[pA a1c0b 0]] (X := Unit) (fun (_ : Unit) => .bool false) [] [.rd a1c0_40_o 1 [[.int .u8 120]],.rd (some ⟨a1c0b,0,none⟩) 46 [(kc12 a1c0_40_o a1c0_40_c)]] (fun (_ : Unit) => []) := by
  intro w hg
  rw [m_slices_ContainsFunc___api_Msg_api_Msg_] at hm
  refine GS.start (S := mayT [] [.rd a1c0_40_o 1 [[.int .u8 120]],.rd (some ⟨a1c0b,0,none⟩) 46 [(kc12 a1c0_40_o a1c0_40_c)]]) (mem := [(1,.rd a1c0_40_o 1 [[.int .u8 120]]),(2,.rd (some ⟨a1c0b,0,none⟩) 46 [(kc12 a1c0_40_o a1c0_40_c)])]) Tryz.func66 rfl Tryz.ntmps66 (Nat.le_of_ble_eq_true rfl) (hg.start rfl) ?_
  refine GS.conv (env' := [(0,.slice none 0 0),(1,.func (.func 64) #[] #[pA a1c0b 0])]) rfl rfl ?_
  refine GS.seq ?_
  refine GS.tzM (fun _ => [(0,.slice none 0 0),(1,.func (.func 64) #[] #[pA a1c0b 0])]) [] ?_
  intro _
  refine GS.seq ?_
  refine bnd_elim hm (fun y3 e4 hm => ?_)
  refine GS.tg (fun _ => [(4,.bool false)]) (fun _ => []) [(2,{ act := .call [1,2] (vI (-1)) })] (fun _ => [CallOK Tryz.prog 85 #[.slice none 0 0,.func (.func 64) #[] #[pA a1c0b 0]] (vI (-1)) [some (.rd a1c0_40_o 1 [[.int .u8 120]]),some (.rd (some ⟨a1c0b,0,none⟩) 46 [(kc12 a1c0_40_o a1c0_40_c)])]]) (fun _ => ⟨(by have h1 := w_slices_IndexFunc___api_Msg_api_Msg_ F a1c0b a1c0_40_o a1c0_40_c e4; exact h1.ok ⟨(.inl ⟨.rd a1c0_40_o 1 [[.int .u8 120]],.head _,Cov.refl _⟩),(.inl ⟨.rd (some ⟨a1c0b,0,none⟩) 46 [(kc12 a1c0_40_o a1c0_40_c)],(.tail _ (.head _)),Cov.refl _⟩),trivial⟩),trivial⟩) ?_
  intro _
  have hy := Option.some.inj hm
  subst hy
  refine GS.ret (fn := Tryz.f66) [0] [.bool false] [] rfl Tryz.func66 (by kernel_rfl) trivial (fun w' hs => ?_)
  exact ⟨(),rfl,hs.turnedG (ks := []) rfl rfl⟩

theorem w_slices_Clone___byte_byte_ (F : Nat) (b : Option Addr) (c : Nat) {y : Unit} (hm : m_slices_Clone___byte_byte_ F = some y) : CallG Tryz.prog 67 #[.slice b 1 c] (X := Option Addr × Nat) (fun ⟨x0,x1⟩ => .slice x0 1 x1) [] [.rd b 1 [[.int .u8 120]]] (fun ⟨x0,x1⟩ => [.osl x0 x1 5 1 [[.int .u8 120]]]) := by
  intro w hg
  rw [m_slices_Clone___byte_byte_] at hm
  refine GS.start (S := mayT [] [.rd b 1 [[.int .u8 120]]]) (mem := [(1,.rd b 1 [[.int .u8 120]])]) Tryz.func67 rfl Tryz.ntmps67 (Nat.le_of_ble_eq_true rfl) (hg.start rfl) ?_
  refine GS.conv (env' := [(0,.slice b 1 c)]) rfl rfl ?_
  refine GS.seq ?_
  refine GS.tzM (fun _ => [(0,.slice b 1 c)]) [] ?_
  intro _
  refine GS.seq ?_
  refine GS.seq ?_
  refine GS.know (p := b.isNone = false) (fun w hw => ne_rd (hw.ok 1 _ rfl)) (fun k2 => ?_)
  refine GS.tgM (fun _ => [(0,.slice b 1 c),(4,.bool false)]) [(1,{ act := .nilq,sp := some (.bool false) })] (fun _ => [((.bool b.isNone : Value)) = .bool false]) (fun _ => ⟨(bool_eq k2),trivial⟩) ?_
  intro _
  refine GS.cond (t := false) rfl rfl (fun hf => by cases hf) (fun _ => ?_)
  refine GS.skip ?_
  refine GS.seq ?_
  refine GS.tg (fun a => [(2,.slice ((a 2).ob) 1 ((a 2).cap))]) (fun a => [(2,.osl ((a 2).ob) ((a 2).cap) 5 1 (([] : List (List Value)) ++ ([[.int .u8 120]] : List (List Value))))]) [(0,{ act := .new (.row 0 1),key := some 2 }),(2,{ act := .app (some 1),key := some 2,spf := some (fun f => .slice (f.ob) 1 (f.cap)) })] (fun a => [b = b,1 = ([[.int .u8 120]] : List (List Value)).length,(some (Addr.mk (a 0).x 0 none)) = (some (Addr.mk (a 0).x 0 none)),0 = 0,0 = ([] : List (List Value)).length,(([] : List (List Value)).length + ([[.int .u8 120]] : List (List Value)).length) * (1 + 1) ≤ 70368744177664,([[.int .u8 120]] : List (List Value)).flatten.all Value.oneCell' = true,((.slice ((a 2).ob) (0 + ([[.int .u8 120]] : List (List Value)).length) ((a 2).cap)) : Value) = .slice ((a 2).ob) 1 ((a 2).cap)]) (fun a => ⟨rfl,rfl,rfl,rfl,rfl,(show (0 + 1) * (1 + 1) ≤ 70368744177664 by decide),rfl,rfl,trivial⟩) ?_
  intro a
  refine GS.conv (mem' := [(2,.osl ((a 2).ob) ((a 2).cap) 5 1 [[.int .u8 120]])]) rfl (congrArg (fun rr : List (List Value) => ([(2,.osl ((a 2).ob) ((a 2).cap) 5 1 rr)] : List (Nat × Ent))) (show ([] : List (List Value)) ++ ([[.int .u8 120]] : List (List Value)) = ([[.int .u8 120]] : List (List Value)) from rfl)) ?_
  have hy := Option.some.inj hm
  subst hy
  refine GS.ret (fn := Tryz.f67) [0] [.slice ((a 2).ob) 1 ((a 2).cap)] [] rfl Tryz.func67 (by kernel_rfl) trivial (fun w' hs => ?_)
  exact ⟨⟨(a 2).ob,(a 2).cap⟩,rfl,hs.turnedG (ks := [2]) rfl rfl⟩

theorem w_pglog_Seen (F : Nat) (b : Option Addr) (f : Nat) (a : Option Addr) (e : Nat) (c : Option Addr) (g : Nat) {y : Unit} (hm : m_pglog_Seen F = some y) : CallG Tryz.prog 86 #[.agg ((kc9 b f a e c g)).toArray,vI 5,vI 1] (X := Unit) (fun (_ : Unit) => .tuple #[.agg ((kc16)).toArray,vI 0]) [] [.rd b 7 [],.rd a 5 [],.rd c 4 []] (fun (_ : Unit) => []) := by
  intro w hg
  rw [m_pglog_Seen] at hm
  refine GS.start (S := mayT [] [.rd b 7 [],.rd a 5 [],.rd c 4 []]) (mem := [(1,.rd b 7 []),(2,.rd a 5 []),(3,.rd c 4 [])]) Tryz.func86 rfl Tryz.ntmps86 (Nat.le_of_ble_eq_true rfl) (hg.start rfl) ?_
  refine GS.conv (env' := [(0,.agg ((kc9 b f a e c g)).toArray),(1,vI 5),(2,vI 1)]) rfl rfl ?_
  refine GS.seq ?_
  refine GS.tz (fun d => [(1,vI 5),(2,vI 1),(3,pA ((d 0).x) 0),(6,pA ((d 1).x) 0)]) (fun d => [(1,.rd b 7 []),(2,.rd a 5 []),(3,.rd c 4 []),(4,.cells ((d 0).x) 28 (kc9 b f a e c g)),(5,.cells ((d 1).x) 94 (kc16))]) [(0,{ act := .new .var,key := some 4 }),(1,{ act := .new .var,key := some 5 })] ?_
  intro d
  refine GS.seq ?_
  refine GS.seq ?_
  refine GS.tg (fun _ => [(1,vI 5),(2,vI 1),(6,pA ((d 1).x) 0),(11,.slice a 0 e),(12,vI 0),(13,vI 0)]) (fun _ => [(2,.rd a 5 []),(5,.cells ((d 1).x) 94 (kc16))]) [(1,{ act := .load 4 0 0 [] })] (fun _ => [(d 0).x = (d 0).x]) (fun _ => ⟨rfl,trivial⟩) ?_
  intro _
  refine GS.block ?_
  refine GS.loop ?_
  refine GS.seq ?_
  refine GS.tzM (fun _ => [(1,vI 5),(2,vI 1),(6,pA ((d 1).x) 0),(11,.slice a 0 e),(12,vI 0),(13,vI 0),(14,.bool false)]) [] ?_
  intro _
  refine GS.seq ?_
  refine GS.cond (t := false) rfl rfl (fun hf => by cases hf) (fun _ => ?_)
  refine GS.exit rfl ?_
  refine GS.seq ?_
  refine GS.tg (fun _ => [(6,pA ((d 1).x) 0),(7,vI 0)]) (fun _ => [(5,.cells ((d 1).x) 94 (kc16))]) [(1,{ act := .store 0 0 [],key := some 5 })] (fun _ => [(d 1).x = (d 1).x,oC (.agg ((kc16)).toArray)]) (fun _ => ⟨rfl,rfl,trivial⟩) ?_
  intro _
  have hy := Option.some.inj hm
  subst hy
  refine GS.ret (fn := Tryz.f86) [5,0] [.agg ((kc16)).toArray,vI 0] [(d 1).x = (d 1).x] rfl Tryz.func86 (by kernel_rfl) ⟨rfl,trivial⟩ (fun w' hs => ?_)
  exact ⟨(),rfl,hs.turnedG (ks := []) rfl rfl⟩

theorem w_pglog_Find (F : Nat) (b : Option Addr) (f : Nat) (c : Option Addr) (g : Nat) (a : Option Addr) (e : Nat) {y : Unit} (hm : m_pglog_Find F = some y) : CallG Tryz.prog 37 #[.agg ((kc9 b f c g a e)).toArray,.string (ByteArray.mk #[97])] (X := Unit) (fun (_ : Unit) => .tuple #[.agg ((kc18)).toArray,.bool false]) [] [.rd b 7 [],.rd c 5 [],.rd a 4 []] (fun (_ : Unit) => []) := by
  intro w hg
  rw [m_pglog_Find] at hm
  refine GS.start (S := mayT [] [.rd b 7 [],.rd c 5 [],.rd a 4 []]) (mem := [(1,.rd b 7 []),(2,.rd c 5 []),(3,.rd a 4 [])]) Tryz.func37 rfl Tryz.ntmps37 (Nat.le_of_ble_eq_true rfl) (hg.start rfl) ?_
  refine GS.conv (env' := [(0,.agg ((kc9 b f c g a e)).toArray),(1,.string (ByteArray.mk #[97]))]) rfl rfl ?_
  refine GS.seq ?_
  refine GS.tz (fun d => [(1,.string (ByteArray.mk #[97])),(2,pA ((d 0).x) 0),(4,pA ((d 1).x) 0)]) (fun d => [(1,.rd b 7 []),(2,.rd c 5 []),(3,.rd a 4 []),(4,.cells ((d 0).x) 28 (kc9 b f c g a e)),(5,.cells ((d 1).x) 91 (kc18))]) [(0,{ act := .new .var,key := some 4 }),(1,{ act := .new .var,key := some 5 })] ?_
  intro d
  refine GS.seq ?_
  refine GS.seq ?_
  refine GS.tg (fun _ => [(1,.string (ByteArray.mk #[97])),(4,pA ((d 1).x) 0),(9,.slice a 0 e),(10,vI 0),(11,vI 0)]) (fun _ => [(3,.rd a 4 []),(5,.cells ((d 1).x) 91 (kc18))]) [(1,{ act := .load 4 0 0 [] })] (fun _ => [(d 0).x = (d 0).x]) (fun _ => ⟨rfl,trivial⟩) ?_
  intro _
  refine GS.block ?_
  refine GS.loop ?_
  refine GS.seq ?_
  refine GS.tzM (fun _ => [(1,.string (ByteArray.mk #[97])),(4,pA ((d 1).x) 0),(9,.slice a 0 e),(10,vI 0),(11,vI 0),(12,.bool false)]) [] ?_
  intro _
  refine GS.seq ?_
  refine GS.cond (t := false) rfl rfl (fun hf => by cases hf) (fun _ => ?_)
  refine GS.exit rfl ?_
  refine GS.seq ?_
  refine GS.tg (fun _ => [(4,pA ((d 1).x) 0),(5,.bool false)]) (fun _ => [(5,.cells ((d 1).x) 91 (kc18))]) [(1,{ act := .store 0 0 [],key := some 5 })] (fun _ => [(d 1).x = (d 1).x,oC (.agg ((kc18)).toArray)]) (fun _ => ⟨rfl,rfl,trivial⟩) ?_
  intro _
  have hy := Option.some.inj hm
  subst hy
  refine GS.ret (fn := Tryz.f37) [5,0] [.agg ((kc18)).toArray,.bool false] [(d 1).x = (d 1).x] rfl Tryz.func37 (by kernel_rfl) ⟨rfl,trivial⟩ (fun w' hs => ?_)
  exact ⟨(),rfl,hs.turnedG (ks := []) rfl rfl⟩

theorem w_place_Good (F : Nat) {y : Unit} (hm : m_place_Good F = some y) : CallG Tryz.prog 38 #[.string (ByteArray.mk #[97])] (X := Unit) (fun (_ : Unit) => .bool true) [] [] (fun (_ : Unit) => []) := by
  intro w hg
  rw [m_place_Good] at hm
  refine GS.start (S := mayT [] []) (mem := []) Tryz.func38 rfl Tryz.ntmps38 (Nat.le_of_ble_eq_true rfl) (hg.start rfl) ?_
  refine GS.conv (env' := [(0,.string (ByteArray.mk #[97]))]) rfl rfl ?_
  refine GS.seq ?_
  refine GS.tzM (fun _ => [(0,.string (ByteArray.mk #[97]))]) [] ?_
  intro _
  refine GS.seq ?_
  refine GS.seq ?_
  refine GS.tgM (fun _ => [(0,.string (ByteArray.mk #[97])),(6,vI 1),(7,vI 0)]) [(1,{ sp := some (vI 1) })] (fun _ => [((vI (((ByteArray.mk #[97]).size : Nat) : Int)) : Value) = vI 1]) (fun _ => ⟨rfl,trivial⟩) ?_
  intro _
  refine GS.block ?_
  refine GS.loop ?_
  refine GS.seq ?_
  refine GS.tzM (fun _ => [(0,.string (ByteArray.mk #[97])),(6,vI 1),(7,vI 0),(8,.bool true)]) [] ?_
  intro _
  refine GS.seq ?_
  refine GS.cond (t := true) rfl rfl (fun _ => ?_) (fun hf => by cases hf)
  refine GS.skip ?_
  refine GS.seq ?_
  refine GS.block ?_
  refine GS.seq ?_
  refine GS.tzM (fun _ => [(0,.string (ByteArray.mk #[97])),(3,vI 0),(6,vI 1),(7,vI 0)]) [] ?_
  intro _
  refine GS.seq ?_
  refine GS.tgM (fun _ => [(0,.string (ByteArray.mk #[97])),(4,.int .u8 97),(6,vI 1),(7,vI 0)]) [(2,{ act := .elt 0,sp := some (.int .u8 97) })] (fun _ => [(0 : Int) = (0 : Int),0 < (ByteArray.mk #[97]).size,((.int .u8 ((((ByteArray.mk #[97]).data.getD 0 0).toNat : Nat) : Int)) : Value) = .int .u8 97]) (fun _ => ⟨rfl,(Nat.le_of_ble_eq_true rfl),(by kernel_rfl),trivial⟩) ?_
  intro _
  refine GS.block ?_
  refine GS.seq ?_
  refine GS.seq ?_
  refine GS.tzM (fun _ => [(0,.string (ByteArray.mk #[97])),(4,.int .u8 97),(6,vI 1),(7,vI 0),(13,.bool false)]) [] ?_
  intro _
  refine GS.cond (t := false) rfl rfl (fun hf => by cases hf) (fun _ => ?_)
  refine GS.tzM (fun _ => [(0,.string (ByteArray.mk #[97])),(6,vI 1),(7,vI 0),(13,.bool false)]) [] ?_
  intro _
  refine GS.cond (t := false) rfl rfl (fun hf => by cases hf) (fun _ => ?_)
  refine GS.skip ?_
  refine GS.inBlock ?_
  refine GS.inBlock ?_
  refine GS.tzM (fun _ => [(0,.string (ByteArray.mk #[97])),(6,vI 1),(7,vI 1)]) [] ?_
  intro _
  refine GS.inLoop ?_
  refine GS.seq ?_
  refine GS.tzM (fun _ => [(0,.string (ByteArray.mk #[97])),(6,vI 1),(7,vI 1),(8,.bool false)]) [] ?_
  intro _
  refine GS.seq ?_
  refine GS.cond (t := false) rfl rfl (fun hf => by cases hf) (fun _ => ?_)
  refine GS.exit rfl ?_
  refine GS.seq ?_
  refine GS.tgM (fun _ => [(2,.bool true)]) [(1,{ sp := some (.bool true) }),(4,{ sp := some (vI 1) })] (fun _ => [((.bool (!((ByteArray.mk #[97]).toList == (ByteArray.mk #[]).toList))) : Value) = .bool true,((vI (((ByteArray.mk #[97]).size : Nat) : Int)) : Value) = vI 1]) (fun _ => ⟨(by kernel_rfl),rfl,trivial⟩) ?_
  intro _
  have hy := Option.some.inj hm
  subst hy
  refine GS.ret (fn := Tryz.f38) [0] [.bool true] [] rfl Tryz.func38 (by kernel_rfl) trivial (fun w' hs => ?_)
  exact ⟨(),rfl,hs.turnedG (ks := []) rfl rfl⟩

theorem w_primary_Verdict (F : Nat) (b : Option Addr) (f : Nat) (c : Option Addr) (g : Nat) (d : Option Addr) (h : Nat) (e : Option Addr) (i : Nat) {y : Unit} (hm : m_primary_Verdict F = some y) : CallG Tryz.prog 11 #[.agg ((kc9 b f c g d h)).toArray,.agg ((kc17 e i)).toArray] (X := Unit) (fun (_ : Unit) => vI 0) [] [.rd b 7 [],.rd c 5 [],.rd d 4 [],.rd e 1 [[.int .u8 120]]] (fun (_ : Unit) => []) := by
  intro w hg
  rw [m_primary_Verdict] at hm
  refine GS.start (S := mayT [] [.rd b 7 [],.rd c 5 [],.rd d 4 [],.rd e 1 [[.int .u8 120]]]) (mem := [(1,.rd b 7 []),(2,.rd c 5 []),(3,.rd d 4 []),(4,.rd e 1 [[.int .u8 120]])]) Tryz.func11 rfl Tryz.ntmps11 (Nat.le_of_ble_eq_true rfl) (hg.start rfl) ?_
  refine GS.conv (env' := [(0,.agg ((kc9 b f c g d h)).toArray),(1,.agg ((kc17 e i)).toArray)]) rfl rfl ?_
  refine GS.seq ?_
  refine GS.tz (fun a => [(2,pA ((a 0).x) 0),(3,pA ((a 1).x) 0)]) (fun a => [(1,.rd b 7 []),(2,.rd c 5 []),(3,.rd d 4 []),(4,.rd e 1 [[.int .u8 120]]),(5,.cells ((a 0).x) 28 (kc9 b f c g d h)),(6,.cells ((a 1).x) 34 (kc17 e i))]) [(0,{ act := .new .var,key := some 5 }),(1,{ act := .new .var,key := some 6 })] ?_
  intro a
  refine GS.seq ?_
  refine bnd_elim hm (fun y3 e4 hm => ?_)
  refine GS.tg (fun j => [(2,pA ((a 0).x) 0),(3,pA ((a 1).x) 0),(5,pA ((j 7).x) 0),(6,.bool false)]) (fun j => [(1,.rd b 7 []),(2,.rd c 5 []),(3,.rd d 4 []),(4,.rd e 1 [[.int .u8 120]]),(5,.cells ((a 0).x) 28 (kc9 b f c g d h)),(6,.cells ((a 1).x) 34 (kc17 e i)),(7,.cells ((j 7).x) 91 (kc18))]) [(0,{ act := .load 5 0 0 [] }),(2,{ act := .load 6 0 0 [] }),(3,{ act := .call [1,2,3] (.tuple #[.agg ((kc18)).toArray,.bool false]) }),(7,{ act := .new .var,key := some 7 }),(8,{ act := .store 0 0 [],key := some 7 })] (fun j => [(a 0).x = (a 0).x,(a 1).x = (a 1).x,CallOK Tryz.prog 37 #[.agg ((kc9 b f c g d h)).toArray,.string (ByteArray.mk #[97])] (.tuple #[.agg ((kc18)).toArray,.bool false]) [some (.rd b 7 []),some (.rd c 5 []),some (.rd d 4 [])],(j 7).x = (j 7).x,oC (.agg ((kc18)).toArray)]) (fun j => ⟨rfl,rfl,(by have h1 := w_pglog_Find F b f c g d h e4; exact h1.ok ⟨(.inl ⟨.rd b 7 [],.head _,Cov.refl _⟩),(.inl ⟨.rd c 5 [],(.tail _ (.head _)),Cov.refl _⟩),(.inl ⟨.rd d 4 [],(.tail _ (.tail _ (.head _))),Cov.refl _⟩),trivial⟩),rfl,rfl,trivial⟩) ?_
  intro j
  refine GS.seq ?_
  refine GS.tg (fun _ => [(3,pA ((a 1).x) 0),(5,pA ((j 7).x) 0),(6,.bool false),(7,.bool false)]) (fun _ => [(4,.rd e 1 [[.int .u8 120]]),(6,.cells ((a 1).x) 34 (kc17 e i)),(7,.cells ((j 7).x) 91 (kc18))]) [(4,{ act := .load 5 0 0 [] })] (fun _ => [(a 0).x = (a 0).x]) (fun _ => ⟨rfl,trivial⟩) ?_
  intro _
  refine GS.seq ?_
  refine GS.seq ?_
  refine GS.tgM (fun _ => [(3,pA ((a 1).x) 0),(5,pA ((j 7).x) 0),(6,.bool false),(7,.bool false),(24,vI 2)]) [(1,{ act := .load 6 0 0 [] })] (fun _ => [(a 1).x = (a 1).x]) (fun _ => ⟨rfl,trivial⟩) ?_
  intro _
  refine GS.block ?_
  refine GS.seq ?_
  refine GS.seq ?_
  refine GS.tzM (fun _ => [(3,pA ((a 1).x) 0),(5,pA ((j 7).x) 0),(6,.bool false),(7,.bool false),(24,vI 2),(25,.bool true)]) [] ?_
  intro _
  refine GS.cond (t := true) rfl rfl (fun _ => ?_) (fun hf => by cases hf)
  refine GS.skip ?_
  refine GS.cond (t := true) rfl rfl (fun _ => ?_) (fun hf => by cases hf)
  refine GS.skip ?_
  refine GS.inBlock ?_
  refine GS.seq ?_
  refine GS.block ?_
  refine GS.seq ?_
  refine bnd_elim hm (fun y9 k hm => ?_)
  refine GS.tgM (fun _ => [(3,pA ((a 1).x) 0),(5,pA ((j 7).x) 0),(6,.bool false),(7,.bool false),(29,.bool false)]) [(1,{ act := .load 6 0 0 [] }),(2,{ act := .call [] (.bool true) })] (fun _ => [(a 1).x = (a 1).x,CallOK Tryz.prog 38 #[.string (ByteArray.mk #[97])] (.bool true) []]) (fun _ => ⟨rfl,(by have h1 := w_place_Good F  k; exact h1.ok trivial),trivial⟩) ?_
  intro _
  refine GS.cond (t := false) rfl rfl (fun hf => by cases hf) (fun _ => ?_)
  refine GS.seq ?_
  refine GS.tgM (fun _ => [(3,pA ((a 1).x) 0),(5,pA ((j 7).x) 0),(6,.bool false),(7,.bool false),(34,.bool false)]) [(1,{ act := .load 6 0 0 [] })] (fun _ => [(a 1).x = (a 1).x]) (fun _ => ⟨rfl,trivial⟩) ?_
  intro _
  refine GS.cond (t := false) rfl rfl (fun hf => by cases hf) (fun _ => ?_)
  refine GS.seq ?_
  refine GS.tgM (fun _ => [(3,pA ((a 1).x) 0),(5,pA ((j 7).x) 0),(7,.bool false),(39,.bool false)]) [(1,{ act := .load 6 0 0 [] })] (fun _ => [(a 1).x = (a 1).x]) (fun _ => ⟨rfl,trivial⟩) ?_
  intro _
  refine GS.cond (t := false) rfl rfl (fun hf => by cases hf) (fun _ => ?_)
  refine GS.seq ?_
  refine GS.tg (fun _ => [(3,pA ((a 1).x) 0),(7,.bool false),(47,.bool false)]) (fun _ => [(4,.rd e 1 [[.int .u8 120]]),(6,.cells ((a 1).x) 34 (kc17 e i))]) [(1,{ act := .load 6 0 0 [] })] (fun _ => [(a 1).x = (a 1).x]) (fun _ => ⟨rfl,trivial⟩) ?_
  intro _
  refine GS.cond (t := false) rfl rfl (fun hf => by cases hf) (fun _ => ?_)
  refine GS.seq ?_
  refine GS.tg (fun _ => [(58,.bool false)]) (fun _ => []) [(1,{ act := .load 6 0 0 [] })] (fun _ => [(a 1).x = (a 1).x]) (fun _ => ⟨rfl,trivial⟩) ?_
  intro _
  refine GS.cond (t := false) rfl rfl (fun hf => by cases hf) (fun _ => ?_)
  refine GS.skip ?_
  refine GS.inBlock ?_
  refine GS.seq ?_
  refine GS.tzM (fun _ => [(4,vI 0)]) [] ?_
  intro _
  have hy := Option.some.inj hm
  subst hy
  refine GS.ret (fn := Tryz.f11) [0] [vI 0] [] rfl Tryz.func11 (by kernel_rfl) trivial (fun w' hs => ?_)
  exact ⟨(),rfl,hs.turnedG (ks := []) rfl rfl⟩

theorem w_pglog_Head (F : Nat) (b : Option Addr) (e : Nat) (c : Option Addr) (f : Nat) (d : Option Addr) (g : Nat) {y : Unit} (hm : m_pglog_Head F = some y) : CallG Tryz.prog 30 #[.agg ((kc9 b e c f d g)).toArray] (X := Unit) (fun (_ : Unit) => .agg #[vI 0,vI 0]) [] [.rd b 7 [],.rd c 5 [],.rd d 4 []] (fun (_ : Unit) => []) := by
  intro w hg
  rw [m_pglog_Head] at hm
  refine GS.start (S := mayT [] [.rd b 7 [],.rd c 5 [],.rd d 4 []]) (mem := [(1,.rd b 7 []),(2,.rd c 5 []),(3,.rd d 4 [])]) Tryz.func30 rfl Tryz.ntmps30 (Nat.le_of_ble_eq_true rfl) (hg.start rfl) ?_
  refine GS.conv (env' := [(0,.agg ((kc9 b e c f d g)).toArray)]) rfl rfl ?_
  refine GS.seq ?_
  refine GS.tz (fun a => [(1,pA ((a 0).x) 0),(2,pA ((a 1).x) 0)]) (fun a => [(1,.rd b 7 []),(2,.rd c 5 []),(3,.rd d 4 []),(4,.cells ((a 0).x) 28 (kc9 b e c f d g)),(5,.cells ((a 1).x) 23 [vI 0,vI 0])]) [(0,{ act := .new .var,key := some 4 }),(1,{ act := .new .var,key := some 5 })] ?_
  intro a
  refine GS.seq ?_
  refine GS.seq ?_
  refine GS.tgM (fun _ => [(1,pA ((a 0).x) 0),(2,pA ((a 1).x) 0),(3,vI 0)]) [(1,{ act := .load 4 0 0 [] })] (fun _ => [(a 0).x = (a 0).x]) (fun _ => ⟨rfl,trivial⟩) ?_
  intro _
  refine GS.seq ?_
  refine GS.tzM (fun _ => [(1,pA ((a 0).x) 0),(2,pA ((a 1).x) 0),(3,vI 0),(8,.bool false)]) [] ?_
  intro _
  refine GS.cond (t := false) rfl rfl (fun hf => by cases hf) (fun _ => ?_)
  refine GS.skip ?_
  refine GS.seq ?_
  refine GS.tg (fun _ => [(2,pA ((a 1).x) 0)]) (fun _ => [(5,.cells ((a 1).x) 23 [vI 0,vI 0])]) [(1,{ act := .load 4 0 0 [] }),(2,{ act := .store 0 0 [],key := some 5 })] (fun _ => [(a 0).x = (a 0).x,(a 1).x = (a 1).x,oC (.agg #[vI 0,vI 0])]) (fun _ => ⟨rfl,rfl,rfl,trivial⟩) ?_
  intro _
  have hy := Option.some.inj hm
  subst hy
  refine GS.ret (fn := Tryz.f30) [5] [.agg #[vI 0,vI 0]] [(a 1).x = (a 1).x] rfl Tryz.func30 (by kernel_rfl) ⟨rfl,trivial⟩ (fun w' hs => ?_)
  exact ⟨(),rfl,hs.turnedG (ks := []) rfl rfl⟩

theorem w_primary_Next (F : Nat) (a : Option Addr) (e : Nat) (b : Option Addr) (f : Nat) (c : Option Addr) (g : Nat) {y : Unit} (hm : m_primary_Next F = some y) : CallG Tryz.prog 13 #[.agg ((kc9 a e b f c g)).toArray,vI 3] (X := Unit) (fun (_ : Unit) => .agg #[vI 3,vI 1]) [] [.rd a 7 [],.rd b 5 [],.rd c 4 []] (fun (_ : Unit) => []) := by
  intro w hg
  rw [m_primary_Next] at hm
  refine GS.start (S := mayT [] [.rd a 7 [],.rd b 5 [],.rd c 4 []]) (mem := [(1,.rd a 7 []),(2,.rd b 5 []),(3,.rd c 4 [])]) Tryz.func13 rfl Tryz.ntmps13 (Nat.le_of_ble_eq_true rfl) (hg.start rfl) ?_
  refine GS.conv (env' := [(0,.agg ((kc9 a e b f c g)).toArray),(1,vI 3)]) rfl rfl ?_
  refine GS.seq ?_
  refine GS.tz (fun d => [(1,vI 3),(2,pA ((d 0).x) 0),(4,pA ((d 1).x) 0)]) (fun d => [(1,.rd a 7 []),(2,.rd b 5 []),(3,.rd c 4 []),(4,.cells ((d 0).x) 28 (kc9 a e b f c g)),(5,.cells ((d 1).x) 23 [vI 0,vI 0])]) [(0,{ act := .new .var,key := some 4 }),(1,{ act := .new .var,key := some 5 })] ?_
  intro d
  refine GS.seq ?_
  refine bnd_elim hm (fun y3 e4 hm => ?_)
  refine GS.tg (fun _ => [(4,pA ((d 1).x) 0)]) (fun _ => [(5,.cells ((d 1).x) 23 [vI 3,vI 1])]) [(1,{ act := .load 4 0 0 [] }),(2,{ act := .call [1,2,3] (.agg #[vI 0,vI 0]) }),(6,{ act := .store 0 0 [],key := some 5 })] (fun _ => [(d 0).x = (d 0).x,CallOK Tryz.prog 30 #[.agg ((kc9 a e b f c g)).toArray] (.agg #[vI 0,vI 0]) [some (.rd a 7 []),some (.rd b 5 []),some (.rd c 4 [])],(d 1).x = (d 1).x,oC (.agg #[vI 3,vI 1])]) (fun _ => ⟨rfl,(by have h1 := w_pglog_Head F a e b f c g e4; exact h1.ok ⟨(.inl ⟨.rd a 7 [],.head _,Cov.refl _⟩),(.inl ⟨.rd b 5 [],(.tail _ (.head _)),Cov.refl _⟩),(.inl ⟨.rd c 4 [],(.tail _ (.tail _ (.head _))),Cov.refl _⟩),trivial⟩),rfl,rfl,trivial⟩) ?_
  intro _
  have hy := Option.some.inj hm
  subst hy
  refine GS.ret (fn := Tryz.f13) [5] [.agg #[vI 3,vI 1]] [(d 1).x = (d 1).x] rfl Tryz.func13 (by kernel_rfl) ⟨rfl,trivial⟩ (fun w' hs => ?_)
  exact ⟨(),rfl,hs.turnedG (ks := []) rfl rfl⟩

theorem w_slices_Clone___int_int_ (F : Nat) (b : Option Addr) (c : Nat) {y : Unit} (hm : m_slices_Clone___int_int_ F = some y) : CallG Tryz.prog 50 #[.slice b 1 c] (X := Option Addr × Nat) (fun ⟨x0,x1⟩ => .slice x0 1 x1) [] [.rd b 1 [[vI 1]]] (fun ⟨x0,x1⟩ => [.osl x0 x1 3 1 [[vI 1]]]) := by
  intro w hg
  rw [m_slices_Clone___int_int_] at hm
  refine GS.start (S := mayT [] [.rd b 1 [[vI 1]]]) (mem := [(1,.rd b 1 [[vI 1]])]) Tryz.func50 rfl Tryz.ntmps50 (Nat.le_of_ble_eq_true rfl) (hg.start rfl) ?_
  refine GS.conv (env' := [(0,.slice b 1 c)]) rfl rfl ?_
  refine GS.seq ?_
  refine GS.tzM (fun _ => [(0,.slice b 1 c)]) [] ?_
  intro _
  refine GS.seq ?_
  refine GS.seq ?_
  refine GS.know (p := b.isNone = false) (fun w hw => ne_rd (hw.ok 1 _ rfl)) (fun k2 => ?_)
  refine GS.tgM (fun _ => [(0,.slice b 1 c),(4,.bool false)]) [(1,{ act := .nilq,sp := some (.bool false) })] (fun _ => [((.bool b.isNone : Value)) = .bool false]) (fun _ => ⟨(bool_eq k2),trivial⟩) ?_
  intro _
  refine GS.cond (t := false) rfl rfl (fun hf => by cases hf) (fun _ => ?_)
  refine GS.skip ?_
  refine GS.seq ?_
  refine GS.tg (fun a => [(2,.slice ((a 2).ob) 1 ((a 2).cap))]) (fun a => [(2,.osl ((a 2).ob) ((a 2).cap) 3 1 (([] : List (List Value)) ++ ([[vI 1]] : List (List Value))))]) [(0,{ act := .new (.row 0 1),key := some 2 }),(2,{ act := .app (some 1),key := some 2,spf := some (fun f => .slice (f.ob) 1 (f.cap)) })] (fun a => [b = b,1 = ([[vI 1]] : List (List Value)).length,(some (Addr.mk (a 0).x 0 none)) = (some (Addr.mk (a 0).x 0 none)),0 = 0,0 = ([] : List (List Value)).length,(([] : List (List Value)).length + ([[vI 1]] : List (List Value)).length) * (8 + 1) ≤ 70368744177664,([[vI 1]] : List (List Value)).flatten.all Value.oneCell' = true,((.slice ((a 2).ob) (0 + ([[vI 1]] : List (List Value)).length) ((a 2).cap)) : Value) = .slice ((a 2).ob) 1 ((a 2).cap)]) (fun a => ⟨rfl,rfl,rfl,rfl,rfl,(show (0 + 1) * (8 + 1) ≤ 70368744177664 by decide),rfl,rfl,trivial⟩) ?_
  intro a
  refine GS.conv (mem' := [(2,.osl ((a 2).ob) ((a 2).cap) 3 1 [[vI 1]])]) rfl (congrArg (fun rr : List (List Value) => ([(2,.osl ((a 2).ob) ((a 2).cap) 3 1 rr)] : List (Nat × Ent))) (show ([] : List (List Value)) ++ ([[vI 1]] : List (List Value)) = ([[vI 1]] : List (List Value)) from rfl)) ?_
  have hy := Option.some.inj hm
  subst hy
  refine GS.ret (fn := Tryz.f50) [0] [.slice ((a 2).ob) 1 ((a 2).cap)] [] rfl Tryz.func50 (by kernel_rfl) trivial (fun w' hs => ?_)
  exact ⟨⟨(a 2).ob,(a 2).cap⟩,rfl,hs.turnedG (ks := [2]) rfl rfl⟩

theorem w_digest_New (F : Nat) {y : Unit} (hm : m_digest_New F = some y) : CallG Tryz.prog 88 #[] (X := Nat) (fun (x0 : Nat) => pA x0 0) [] [] (fun (x0 : Nat) => [.cells x0 190 (([.int .u32 0,.int .i32 0,.int .u32 0] : List Value) ++ (aU32 (List.replicate 256 0) ++ (([vI 0] : List Value))))]) := by
  intro w hg
  rw [m_digest_New] at hm
  refine GS.start (S := mayT [] []) (mem := []) Tryz.func88 rfl Tryz.ntmps88 (Nat.le_of_ble_eq_true rfl) (hg.start rfl) ?_
  refine GS.conv (env' := []) rfl rfl ?_
  refine GS.seq ?_
  refine GS.tzM (fun _ => []) [] ?_
  intro _
  refine GS.seq ?_
  refine GS.tz (fun a => [(0,pA ((a 1).x) 0)]) (fun a => [(1,.cells ((a 1).x) 190 (([.int .u32 0,.int .i32 0,.int .u32 0] : List Value) ++ (aU32 (List.replicate 256 0) ++ (([vI 0] : List Value)))))]) [(1,{ act := .new .var,key := some 1 })] ?_
  intro a
  have hy := Option.some.inj hm
  subst hy
  refine GS.ret (fn := Tryz.f88) [0] [pA ((a 1).x) 0] [] rfl Tryz.func88 (by kernel_rfl) trivial (fun w' hs => ?_)
  exact ⟨((a 1).x),rfl,hs.turnedG (ks := [1]) rfl rfl⟩

theorem w___digest_Engine__make (F : Nat) (o : Nat) (a0 : S_digest_Engine) {y : S_digest_Engine} (hm : m___digest_Engine__make F a0 = some y) : CallG Tryz.prog 111 #[pA o 0] (X := Unit) (fun (_ : Unit) => .tuple #[]) [.cells o 190 (([.int .u32 a0.once.done.v,.int .i32 a0.once.m.mu.state,.int .u32 a0.once.m.mu.sema] : List Value) ++ (aU32 a0.table ++ (([vI a0.calls.v] : List Value))))] [] (fun (_ : Unit) => [.cells o 190 (([.int .u32 y.once.done.v,.int .i32 y.once.m.mu.state,.int .u32 y.once.m.mu.sema] : List Value) ++ (aU32 y.table ++ (([vI y.calls.v] : List Value))))]) := by
  intro w hg
  rw [m___digest_Engine__make] at hm
  refine GS.start (S := mayT [.cells o 190 (([.int .u32 a0.once.done.v,.int .i32 a0.once.m.mu.state,.int .u32 a0.once.m.mu.sema] : List Value) ++ (aU32 a0.table ++ (([vI a0.calls.v] : List Value))))] []) (mem := [(1,.cells o 190 (([.int .u32 a0.once.done.v,.int .i32 a0.once.m.mu.state,.int .u32 a0.once.m.mu.sema] : List Value) ++ (aU32 a0.table ++ (([vI a0.calls.v] : List Value)))))]) Tryz.func111 rfl Tryz.ntmps111 (Nat.le_of_ble_eq_true rfl) (hg.start rfl) ?_
  refine GS.conv (env' := [(0,pA o 0)]) rfl rfl ?_
  refine GS.seq ?_
  refine GS.tzM (fun _ => [(0,pA o 0),(4,vI 0)]) [] ?_
  intro _
  refine GS.block ?_
  refine GS.loop ?_
  refine grd_elim hm (fun K hm => ?_)
  refine GS.rekey (env' := [(0,pA o 0),(4,vI 0)]) (mem' := [(1,.cells o 190 (([.int .u32 a0.once.done.v,.int .i32 a0.once.m.mu.state,.int .u32 a0.once.m.mu.sema] : List Value) ++ (aU32 a0.table ++ (([vI a0.calls.v] : List Value)))))]) [0,4] [(1,1)] (by kernel_rfl) (by kernel_rfl) rfl ?_
  refine loopC_elim hm (fun st169 fn170 hst171 hfn172 hm => ?_)
  refine GS.loopInv (ι := Nat × Nat × List Int) (I := fun ⟨q,g,n⟩ => ((256) - (g : Int) : Int).toNat = q ∧ loopC st169 fn170 q g n = some y) (μ := fun ⟨q,g,n⟩ => q) (E := fun ⟨q,g,n⟩ => [(0,pA o 0),(4,vI (g : Int))]) (M := fun ⟨q,g,n⟩ => [(1,.cells o 190 (([.int .u32 a0.once.done.v,.int .i32 a0.once.m.mu.state,.int .u32 a0.once.m.mu.sema] : List Value) ++ (aU32 n ++ (([vI a0.calls.v] : List Value)))))]) ?_ ⟨(Int.toNat (256 - (0 : Int))),0,a0.table⟩ ⟨rfl,hm⟩
  rintro ⟨q,g,n⟩ ⟨B,hm⟩ J
  cases q with
  | zero =>
    replace hm := (hfn172 _ _).symm.trans hm
    try dsimp only at hm
    refine GS.seq ?_
    refine GS.tzM (fun _ => [(0,pA o 0),(4,vI (g : Int)),(5,.bool (decide ((g : Int) < 256)))]) [] ?_
    intro _
    refine GS.seq ?_
    refine GS.cond (t := decide ((g : Int) < 256)) rfl rfl (fun N => absb N (cnt0 B)) (fun _ => ?_)
    refine GS.exit rfl ?_
    have hy := Option.some.inj hm
    subst hy
    refine GS.end_ (fn := Tryz.f111) [] [] [] rfl Tryz.func111 (by kernel_rfl) trivial (fun w' hs => ?_)
    exact ⟨(),rfl,hs.turnedG (ks := [1]) rfl rfl⟩
  | succ q =>
    replace hm := (hst171 _ _ _).symm.trans hm
    try dsimp only at hm
    refine GS.seq ?_
    refine GS.tzM (fun _ => [(0,pA o 0),(4,vI (g : Int)),(5,.bool (decide ((g : Int) < 256)))]) [] ?_
    intro _
    refine GS.seq ?_
    refine GS.cond (t := decide ((g : Int) < 256)) rfl rfl (fun _ => ?_) (fun O => absb (cnt1 B) O)
    refine GS.skip ?_
    refine GS.seq ?_
    refine GS.block ?_
    refine GS.seq ?_
    refine GS.tzM (fun _ => [(0,pA o 0),(2,vI (g : Int)),(4,vI (g : Int))]) [] ?_
    intro _
    refine GS.seq ?_
    refine GS.tzM (fun _ => [(0,pA o 0),(2,vI (g : Int)),(3,.int .u32 (IntKind.u32.wrap (g : Int))),(4,vI (g : Int))]) [] ?_
    intro _
    refine GS.seq ?_
    refine GS.seq ?_
    refine GS.tzM (fun _ => [(0,pA o 0),(2,vI (g : Int)),(3,.int .u32 (IntKind.u32.wrap (g : Int))),(4,vI (g : Int)),(9,vI 0)]) [] ?_
    intro _
    refine GS.block ?_
    refine GS.loop ?_
    refine grd_elim hm (fun G hm => ?_)
    refine GS.rekey (env' := [(0,pA o 0),(2,vI (g : Int)),(3,.int .u32 (IntKind.u32.wrap (g : Int))),(4,vI (g : Int)),(9,vI 0)]) (mem' := [(1,.cells o 190 (([.int .u32 a0.once.done.v,.int .i32 a0.once.m.mu.state,.int .u32 a0.once.m.mu.sema] : List Value) ++ (aU32 n ++ (([vI a0.calls.v] : List Value)))))]) [0,2,3,4,9] [(1,1)] (by kernel_rfl) (by kernel_rfl) rfl ?_
    refine loopC_elim hm (fun st156 fn157 hst158 hfn159 hm => ?_)
    refine GS.loopInv (ι := Nat × Int × Nat) (I := fun ⟨p,l,h⟩ => ((8) - (h : Int) : Int).toNat = p ∧ loopC st156 fn157 p h l = some y) (μ := fun ⟨p,l,h⟩ => p) (E := fun ⟨p,l,h⟩ => [(0,pA o 0),(2,vI (g : Int)),(3,.int .u32 l),(4,vI (g : Int)),(9,vI (h : Int))]) (M := fun ⟨p,l,h⟩ => [(1,.cells o 190 (([.int .u32 a0.once.done.v,.int .i32 a0.once.m.mu.state,.int .u32 a0.once.m.mu.sema] : List Value) ++ (aU32 n ++ (([vI a0.calls.v] : List Value)))))]) ?_ ⟨(Int.toNat (8 - (0 : Int))),(IntKind.u32.wrap (g : Int)),0⟩ ⟨rfl,hm⟩
    rintro ⟨p,l,h⟩ ⟨r,hm⟩ C
    cases p with
    | zero =>
      replace hm := (hfn159 _ _).symm.trans hm
      try dsimp only at hm
      refine GS.seq ?_
      refine GS.tzM (fun _ => [(0,pA o 0),(2,vI (g : Int)),(3,.int .u32 l),(4,vI (g : Int)),(9,vI (h : Int)),(10,.bool (decide ((h : Int) < 8)))]) [] ?_
      intro _
      refine GS.seq ?_
      refine GS.cond (t := decide ((h : Int) < 8)) rfl rfl (fun Q => absb Q (cnt0 r)) (fun _ => ?_)
      refine GS.exit rfl ?_
      refine grd_elim hm (fun T hm => ?_)
      refine grd_elim hm (fun H hm => ?_)
      refine GS.tg (fun _ => [(0,pA o 0),(4,vI (g : Int))]) (fun _ => [(1,.cells o 190 (splice (([.int .u32 a0.once.done.v,.int .i32 a0.once.m.mu.state,.int .u32 a0.once.m.mu.sema] : List Value) ++ (aU32 n ++ (([vI a0.calls.v] : List Value)))) (3 + g * 1) ((.int .u32 l) : Value).cells.toList))]) [(5,{ act := .arr g }),(6,{ act := .storeC,key := some 1 })] (fun _ => [((g : Int) : Int) = (g : Int),g < 256,o = o,((.int .u32 l) : Value).cells.toList.length = 1,3 + g * 1 + 1 ≤ (([.int .u32 a0.once.done.v,.int .i32 a0.once.m.mu.state,.int .u32 a0.once.m.mu.sema] : List Value) ++ (aU32 n ++ (([vI a0.calls.v] : List Value)))).length,oC (.int .u32 l)]) (fun _ => ⟨rfl,T,rfl,rfl,(by have hh := H; first | simp [aU32_len]; omega),rfl,trivial⟩) ?_
      intro _
      refine GS.conv (mem' := [(1,.cells o 190 (([.int .u32 a0.once.done.v,.int .i32 a0.once.m.mu.state,.int .u32 a0.once.m.mu.sema] : List Value) ++ (aU32 (n.set g l) ++ (([vI a0.calls.v] : List Value)))))]) rfl (congrArg (fun rr : List Value => ([(1,.cells o 190 rr)] : List (Nat × Ent))) (show (splice (([.int .u32 a0.once.done.v,.int .i32 a0.once.m.mu.state,.int .u32 a0.once.m.mu.sema] : List Value) ++ (aU32 n ++ (([vI a0.calls.v] : List Value)))) (3 + g * 1) ((.int .u32 l) : Value).cells.toList : List Value) = ([.int .u32 a0.once.done.v,.int .i32 a0.once.m.mu.state,.int .u32 a0.once.m.mu.sema] : List Value) ++ (aU32 (n.set g l) ++ (([vI a0.calls.v] : List Value))) from splice_aU322 (pre := ([.int .u32 a0.once.done.v,.int .i32 a0.once.m.mu.state,.int .u32 a0.once.m.mu.sema] : List Value)) (m := 3) rfl H (by omega))) ?_
      refine GS.inBlock ?_
      refine GS.tgM (fun _ => [(0,pA o 0),(4,vI ((g + 1 : Nat) : Int))]) [(0,{ sp := some (vI ((g + 1 : Nat) : Int)) })] (fun _ => [((vI (IntKind.i64.wrap ((g : Int) + 1))) : Value) = vI ((g + 1 : Nat) : Int)]) (fun _ => ⟨natwB (cnt1 B) K,trivial⟩) ?_
      intro _
      refine GS.inLoop ?_
      refine GS.rekey (env' := [(0,pA o 0),(4,vI ((g + 1 : Nat) : Int))]) (mem' := [(1,.cells o 190 (([.int .u32 a0.once.done.v,.int .i32 a0.once.m.mu.state,.int .u32 a0.once.m.mu.sema] : List Value) ++ (aU32 (n.set g l) ++ (([vI a0.calls.v] : List Value)))))]) [0,4] [(1,1)] (by kernel_rfl) (by kernel_rfl) rfl ?_
      exact J ⟨q,g + 1,(n.set g l)⟩ ⟨cntN B,hm⟩ (Nat.lt_succ_self _)
    | succ p =>
      replace hm := (hst158 _ _ _).symm.trans hm
      try dsimp only at hm
      refine GS.seq ?_
      refine GS.tzM (fun _ => [(0,pA o 0),(2,vI (g : Int)),(3,.int .u32 l),(4,vI (g : Int)),(9,vI (h : Int)),(10,.bool (decide ((h : Int) < 8)))]) [] ?_
      intro _
      refine GS.seq ?_
      refine GS.cond (t := decide ((h : Int) < 8)) rfl rfl (fun _ => ?_) (fun U => absb (cnt1 r) U)
      refine GS.skip ?_
      refine GS.seq ?_
      refine GS.block ?_
      refine GS.seq ?_
      refine GS.tzM (fun _ => [(0,pA o 0),(2,vI (g : Int)),(3,.int .u32 l),(4,vI (g : Int)),(9,vI (h : Int)),(13,.bool ((iand .u32 l 1) == 1))]) [] ?_
      intro _
      refine GS.cond (t := (iand .u32 l 1) == 1) rfl rfl (fun D => ?_) (fun D => ?_)
      · replace hm := br_t D hm
        refine GS.tzM (fun _ => [(0,pA o 0),(2,vI (g : Int)),(3,.int .u32 (ixor .u32 (Int.fdiv l (2 ^ 1)) 2197175160)),(4,vI (g : Int)),(9,vI (h : Int))]) [] ?_
        intro _
        refine GS.inBlock ?_
        refine GS.tgM (fun _ => [(0,pA o 0),(2,vI (g : Int)),(3,.int .u32 (ixor .u32 (Int.fdiv l (2 ^ 1)) 2197175160)),(4,vI (g : Int)),(9,vI ((h + 1 : Nat) : Int))]) [(0,{ sp := some (vI ((h + 1 : Nat) : Int)) })] (fun _ => [((vI (IntKind.i64.wrap ((h : Int) + 1))) : Value) = vI ((h + 1 : Nat) : Int)]) (fun _ => ⟨natwB (cnt1 r) G,trivial⟩) ?_
        intro _
        refine GS.inLoop ?_
        refine GS.rekey (env' := [(0,pA o 0),(2,vI (g : Int)),(3,.int .u32 (ixor .u32 (Int.fdiv l (2 ^ 1)) 2197175160)),(4,vI (g : Int)),(9,vI ((h + 1 : Nat) : Int))]) (mem' := [(1,.cells o 190 (([.int .u32 a0.once.done.v,.int .i32 a0.once.m.mu.state,.int .u32 a0.once.m.mu.sema] : List Value) ++ (aU32 n ++ (([vI a0.calls.v] : List Value)))))]) [0,2,3,4,9] [(1,1)] (by kernel_rfl) (by kernel_rfl) rfl ?_
        exact C ⟨p,(ixor .u32 (Int.fdiv l (2 ^ 1)) 2197175160),h + 1⟩ ⟨cntN r,hm⟩ (Nat.lt_succ_self _)
      · replace hm := br_f D hm
        refine GS.tzM (fun _ => [(0,pA o 0),(2,vI (g : Int)),(3,.int .u32 (Int.fdiv l (2 ^ 1))),(4,vI (g : Int)),(9,vI (h : Int))]) [] ?_
        intro _
        refine GS.inBlock ?_
        refine GS.tgM (fun _ => [(0,pA o 0),(2,vI (g : Int)),(3,.int .u32 (Int.fdiv l (2 ^ 1))),(4,vI (g : Int)),(9,vI ((h + 1 : Nat) : Int))]) [(0,{ sp := some (vI ((h + 1 : Nat) : Int)) })] (fun _ => [((vI (IntKind.i64.wrap ((h : Int) + 1))) : Value) = vI ((h + 1 : Nat) : Int)]) (fun _ => ⟨natwB (cnt1 r) G,trivial⟩) ?_
        intro _
        refine GS.inLoop ?_
        refine GS.rekey (env' := [(0,pA o 0),(2,vI (g : Int)),(3,.int .u32 (Int.fdiv l (2 ^ 1))),(4,vI (g : Int)),(9,vI ((h + 1 : Nat) : Int))]) (mem' := [(1,.cells o 190 (([.int .u32 a0.once.done.v,.int .i32 a0.once.m.mu.state,.int .u32 a0.once.m.mu.sema] : List Value) ++ (aU32 n ++ (([vI a0.calls.v] : List Value)))))]) [0,2,3,4,9] [(1,1)] (by kernel_rfl) (by kernel_rfl) rfl ?_
        exact C ⟨p,(Int.fdiv l (2 ^ 1)),h + 1⟩ ⟨cntN r,hm⟩ (Nat.lt_succ_self _)

theorem disable (w : World) : (callFunc 129 #[]).run Tryz.prog w = .ok (.value (.tuple #[])) w := run_call_mark0 Tryz.func129 (by kernel_rfl) (by kernel_rfl) (by kernel_rfl) .disable (by kernel_rfl) w
theorem enable (w : World) : (callFunc 131 #[]).run Tryz.prog w = .ok (.value (.tuple #[])) w := run_call_mark0 Tryz.func131 (by kernel_rfl) (by kernel_rfl) (by kernel_rfl) .enable (by kernel_rfl) w
theorem acquire (a : Addr) (w : World) : (callFunc 132 #[.pointer (some a)]).run Tryz.prog w = .ok (.value (.tuple #[])) w := run_call_marked Tryz.func132 (by kernel_rfl) (by kernel_rfl) (by kernel_rfl) .acquire (by kernel_rfl) a w
theorem releaseMerge (a : Addr) (w : World) : (callFunc 134 #[.pointer (some a)]).run Tryz.prog w = .ok (.value (.tuple #[])) w := run_call_marked Tryz.func134 (by kernel_rfl) (by kernel_rfl) (by kernel_rfl) .releaseMerge (by kernel_rfl) a w

theorem store_deferred (a : Addr) (x : Value) (u : FrameMode) (w : World) (hc : w.cell? a = some x) (hz : w.frozen? a = false) :
    CallsD Tryz.prog 124 #[.pointer (some a),.bool true] u w fun e u' w' => u' = u ∧ (e = .returned (.tuple #[]) ∧ w' = w.drew.setCell a (.int .u32 1)) := by
  have hc' : w.drew.cell? a = some x := by go_simp
  have hz' : w.drew.frozen? a = false := by go_simp
  have hst := run_call_store (P := Tryz.prog) Tryz.func127 (by kernel_rfl) (by kernel_rfl) (by kernel_rfl) (by kernel_rfl) (k := .u32) (y := 1) hc' hz'
  go_enter_d Tryz.func124,Tryz.ntmps124
  go_wp2
  go_region_calls
  all_goals (go_end0; exact ⟨rfl,rfl⟩)

theorem unlock_deferred (a : Addr) (u : FrameMode) (w : World) (hc : w.cell? a = some (.int .i32 1)) (hz : w.frozen? a = false) :
    CallsD Tryz.prog 123 #[.pointer (some a)] u w fun e u' w' => u' = u ∧ (e = .returned (.tuple #[]) ∧ w' = w.setCell a (.int .i32 0)) := by
  have hd := disable
  have he := enable
  have hr := releaseMerge
  have hadd := run_call_add (P := Tryz.prog) Tryz.func135 (by kernel_rfl) (by kernel_rfl) (by kernel_rfl) .i32 (by kernel_rfl) (y := -1) (s := 0) hc hz (by simp [go_sem]; rfl)
  have hcv := run_convert_to_unsafe (P := Tryz.prog) (src := 210) (dst := 214) Tryz.underlying210 Tryz.underlying214 (by kernel_rfl) hc
  go_enter_d Tryz.func123,Tryz.ntmps123
  go_wp2
  go_end0
  go_wp2
  go_end0
  exact ⟨rfl,rfl⟩

theorem lock_free (a : Addr) (w : World) (hc : w.cell? a = some (.int .i32 0)) (hz : w.frozen? a = false) :
    Calls Tryz.prog 122 #[.pointer (some a)] w fun e w' => e = .returned (.tuple #[]) ∧ w' = w.setCell a (.int .i32 1) := by
  have hd := disable
  have he := enable
  have ha := acquire
  have hcas := run_call_cas_hit (P := Tryz.prog) Tryz.func130 (by kernel_rfl) (by kernel_rfl) (by kernel_rfl) .i32 (by kernel_rfl) (y := 1) hc hz
  have hc' : (w.setCell a (.int .i32 1)).cell? a = some (.int .i32 1) := World.cell?_setCell_same w a _ hc
  have hcv := run_convert_to_unsafe (P := Tryz.prog) (src := 210) (dst := 214) Tryz.underlying210 Tryz.underlying214 (by kernel_rfl) hc'
  go_enter Tryz.func122,Tryz.ntmps122
  go_wp2
  first | go_end0 | (simp only [Exit.inBlock,Exit.then]; refine bodyPost_ret (results_none rfl _ _ _) rfl ?_) | refine bodyPost_ret (results_none rfl _ _ _) rfl ?_
  go_wp2
  go_end0
  exact ⟨rfl,rfl⟩

set_option maxRecDepth 100000 in
set_option maxHeartbeats 1600000 in
/-- '(*sync.Once).doSlow': the lock is taken,the function is called,'done' is stored,the lock is let go. -/
theorem slow_any (b : Nat) (R : World → Prop) (w : World)
    (h0 : w.cell? ⟨b,0,none⟩ = some (.int .u32 0)) (h1 : w.cell? ⟨b,0 + 1,none⟩ = some (.int .i32 0)) (f0 : w.frozen? ⟨b,0,none⟩ = false) (f1 : w.frozen? ⟨b,0 + 1,none⟩ = false)
    (hf : Calls Tryz.prog 111 #[pA b 0] (w.setCell ⟨b,0 + 1,none⟩ (.int .i32 1)) fun e w' => e = .returned (.tuple #[]) ∧ R w')
    (hR : ∀ w',R w' → w'.cell? ⟨b,0,none⟩ = some (.int .u32 0) ∧ w'.cell? ⟨b,0 + 1,none⟩ = some (.int .i32 1) ∧ w'.frozen? ⟨b,0,none⟩ = false ∧ w'.frozen? ⟨b,0 + 1,none⟩ = false) :
    Calls Tryz.prog 120 #[pA b 0,.func (.func 111) #[pA b 0] #[]] w fun e w' => e = .returned (.tuple #[]) ∧
      ∃ w1,R w1 ∧ w' = (w1.drew.setCell ⟨b,0,none⟩ (.int .u32 1)).setCell ⟨b,0 + 1,none⟩ (.int .i32 0) := by
  have hl := run_call_load (P := Tryz.prog) Tryz.func121 (by kernel_rfl) (by kernel_rfl) (by kernel_rfl) .u32 (by kernel_rfl) (w := w.setCell ⟨b,0 + 1,none⟩ (.int .i32 1)) (a := ⟨b,0,none⟩) (x := 0) ((World.cell?_setCell_other _ ⟨b,0 + 1,none⟩ ⟨b,0,none⟩ _ (by simp)).trans h0)
  have hnot : ∀ (x : Bool) (w : World),(Op.unary .not (.bool x)).run Tryz.prog w = .ok (.bool (!x)) w := fun _ _ => rfl
  go_enter_defers Tryz.func120,Tryz.ntmps120
  go_wp2_with (first | (go_at_call 122; refine (lock_free ⟨b,0 + 1,none⟩ _ h1 f1).mono ?_; rintro e w' ⟨rfl,rfl⟩) | (go_at_call 111; refine hf.mono ?_; rintro e w1 ⟨rfl,hw1⟩; obtain ⟨r0,r1,z0,z1⟩ := hR _ hw1) | (go_at_call 119; go_in))
  go_wp2
  refine leaves_cons (f := 124) (args := #[pA b 0,.bool true]) (by simp) (by simp [go_sem]) ?_
  refine (store_deferred ⟨b,0,none⟩ (.int .u32 0) .returning _ r0 z0).mono ?_
  rintro e u' w'' ⟨rfl,rfl,rfl⟩
  refine leaves_cons (f := 123) (args := #[.pointer (some ⟨b,0 + 1,none⟩)]) (by simp [settle]) (by simp [go_sem]) ?_
  refine (unlock_deferred ⟨b,0 + 1,none⟩ _ _ ?_ (by simp [z1])).mono ?_
  · refine (World.cell?_setCell_other _ ⟨b,0,none⟩ ⟨b,0 + 1,none⟩ _ (by simp)).trans ?_
    rw [World.cell?_drew]
    exact r1
  rintro e u' w'' ⟨rfl,rfl,rfl⟩
  simp [Leaves,settle,results,Tryz.results120]
  exact ⟨_,hw1,rfl⟩

set_option maxRecDepth 100000 in
set_option maxHeartbeats 1600000 in
theorem do_first (b : Nat) (R : World → Prop) (w : World)
    (h0 : w.cell? ⟨b,0,none⟩ = some (.int .u32 0)) (h1 : w.cell? ⟨b,0 + 1,none⟩ = some (.int .i32 0)) (f0 : w.frozen? ⟨b,0,none⟩ = false) (f1 : w.frozen? ⟨b,0 + 1,none⟩ = false)
    (hf : Calls Tryz.prog 111 #[pA b 0] (w.setCell ⟨b,0 + 1,none⟩ (.int .i32 1)) fun e w' => e = .returned (.tuple #[]) ∧ R w')
    (hR : ∀ w',R w' → w'.cell? ⟨b,0,none⟩ = some (.int .u32 0) ∧ w'.cell? ⟨b,0 + 1,none⟩ = some (.int .i32 1) ∧ w'.frozen? ⟨b,0,none⟩ = false ∧ w'.frozen? ⟨b,0 + 1,none⟩ = false) :
    Calls Tryz.prog 110 #[pA b 0,.func (.func 111) #[pA b 0] #[]] w fun e w' => e = .returned (.tuple #[]) ∧
      ∃ w1,R w1 ∧ w' = (w1.drew.setCell ⟨b,0,none⟩ (.int .u32 1)).setCell ⟨b,0 + 1,none⟩ (.int .i32 0) := by
  have hl := run_call_load (P := Tryz.prog) Tryz.func121 (by kernel_rfl) (by kernel_rfl) (by kernel_rfl) .u32 (by kernel_rfl) h0
  have hnot : ∀ (x : Bool) (w : World),(Op.unary .not (.bool x)).run Tryz.prog w = .ok (.bool (!x)) w := fun _ _ => rfl
  go_enter Tryz.func110,Tryz.ntmps110
  go_wp2_with (first | (go_at_call 120; refine (slow_any b R _ h0 h1 f0 f1 hf hR).mono ?_; rintro e w' ⟨rfl,hw1⟩) | (go_at_call 119; go_in))
  go_end0
  exact ⟨rfl,hw1⟩

theorem do_done (a : Addr) (fv : Value) (w : World) (h0 : w.cell? a = some (.int .u32 1)) :
    Calls Tryz.prog 110 #[.pointer (some a),fv] w fun e w' => e = .returned (.tuple #[]) ∧ w' = w := by
  have hl := run_call_load (P := Tryz.prog) Tryz.func121 (by kernel_rfl) (by kernel_rfl) (by kernel_rfl) .u32 (by kernel_rfl) h0
  have hnot : ∀ (x : Bool) (w : World),(Op.unary .not (.bool x)).run Tryz.prog w = .ok (.bool (!x)) w := fun _ _ => rfl
  go_enter Tryz.func110,Tryz.ntmps110
  go_wp2
  go_end0
  exact ⟨rfl,rfl⟩

theorem do_ok (F : Nat) (b : Nat) (d st se : Int) (L : List Int) (c : Int) {y : List Int} (hm : m_once F d st se L c = some y) :
    CallG Tryz.prog 110 #[pA b 0,.func (.func 111) #[pA b 0] #[]] (fun _ : Unit => .tuple #[]) [.cells b 190 (ecells d st se L c)] [] (fun _ : Unit => [.cells b 190 (ecells 1 0 se y c)]) := by
  intro w hg
  have hE := good_one hg
  rw [m_once] at hm
  refine grd_elim hm (fun hst hm => ?_)
  refine grd_elim hm (fun hL hm => ?_)
  refine br_elim hm (fun hd hm => ?_) (fun hd hm => ?_)
  · have hd := beq_iff_eq.1 hd
    have hy := Option.some.inj hm
    subst hy hd hst
    exact (do_done ⟨b,0,none⟩ _ w (cells_cell hE 0)).mono fun e w' ⟨he,hw⟩ => ⟨(),he,by subst hw; exact turns_cells (Keep.refl _ _) hE⟩
  · refine grd_elim hm (fun V hm => ?_)
    refine bnd_elim hm (fun z hz hm => ?_)
    refine grd_elim hm (fun hq hm => ?_)
    have hy := Option.some.inj hm
    subst hy V hst
    obtain ⟨q1,q2,q3,q4,q5⟩ := hq
    have s1 := cells_set hE 1 (.int .i32 1)
    have e1 : (ecells 0 0 se L c).set 1 (.int .i32 1) = ecells 0 1 se L c := rfl
    rw [e1] at s1
    have hgood : GoodG [.cells b 190 (ecells 0 1 se L c)] [] (w.setCell ⟨b,1,none⟩ (.int .i32 1)) := by
      refine ⟨fun e he => by rw [List.mem_singleton.1 he]; exact s1.1,fun e he => (by cases he),fun i j e e' hne hi hj => ?_,fun e _ e' he' => (by cases he')⟩
      have h1 := (List.getElem?_eq_some_iff.1 hi).1
      have h2 := (List.getElem?_eq_some_iff.1 hj).1
      simp at h1 h2
      omega
    have hmake := w___digest_Engine__make F b (S_digest_Engine.mk (S_sync_Once.mk S_sync_noCopy.mk (S_atomic_Bool.mk S_atomic_noCopy.mk 0) (S_sync_Mutex'.mk S_sync_noCopy.mk (S_sync_Mutex.mk 1 se))) L (S_atomic_Int64.mk S_atomic_noCopy.mk S_atomic_align64.mk c)) hz (w.setCell ⟨b,1,none⟩ (.int .i32 1)) hgood
    have hf : Calls Tryz.prog 111 #[pA b 0] (w.setCell ⟨b,0 + 1,none⟩ (.int .i32 1)) fun e w' => e = .returned (.tuple #[]) ∧ (Keep (fun k => k = b) w w' ∧ (Ent.cells b 190 (ecells 0 1 se z.table c)).ok w') := by
      refine hmake.mono fun e w' ⟨_,he,ht⟩ => ⟨he,?_,?_⟩
      · refine keep_tr s1.2 (ht.keep.mono fun k _ ⟨e0,h0,hk⟩ => ?_)
        rw [List.mem_singleton.1 h0] at hk
        exact hk
      · have := ht.ok _ (List.mem_singleton.2 rfl)
        rw [q1,q2,q3,q4] at this
        exact this
    refine (do_first b _ w (cells_cell hE 0) (cells_cell hE 1) (cells_frozen hE (i := 0) (by rw [ecells_len hL]; omega)) (cells_frozen hE (i := 1) (by rw [ecells_len hL]; omega)) hf (fun w' ⟨_,hok⟩ => ⟨cells_cell hok 0,cells_cell hok 1,cells_frozen hok (i := 0) (by rw [ecells_len q5]; omega),cells_frozen hok (i := 1) (by rw [ecells_len q5]; omega)⟩)).mono fun e w' ⟨he,w1,⟨hk,hok⟩,hw⟩ => ⟨(),he,?_⟩
    subst hw
    have t1 := cells_set (cells_drew hok) 0 (.int .u32 1)
    have t2 := cells_set t1.1 1 (.int .i32 0)
    exact turns_cells (keep_tr hk (keep_tr (keep_drew _ w1) (keep_tr t1.2 t2.2))) t2.1

theorem w___digest_Engine__Crc (F : Nat) (b : Nat) (a : Option Addr) (c : Nat) {y : List Int × Int} (hm : m___digest_Engine__Crc F = some y) : CallG Tryz.prog 89 #[pA b 0,.slice a 1 c] (X := Unit) (fun (_ : Unit) => .int .u32 y.2) [.cells b 190 (([.int .u32 0,.int .i32 0,.int .u32 0] : List Value) ++ (aU32 (List.replicate 256 0) ++ (([vI 0] : List Value))))] [.rd a 1 [[.int .u8 120]]] (fun (_ : Unit) => [.cells b 190 (([.int .u32 1,.int .i32 0,.int .u32 0] : List Value) ++ (aU32 y.1 ++ (([vI 1] : List Value))))]) := by
  intro w hg
  rw [m___digest_Engine__Crc] at hm
  refine GS.start (S := mayT [.cells b 190 (([.int .u32 0,.int .i32 0,.int .u32 0] : List Value) ++ (aU32 (List.replicate 256 0) ++ (([vI 0] : List Value))))] [.rd a 1 [[.int .u8 120]]]) (mem := [(1,.cells b 190 (([.int .u32 0,.int .i32 0,.int .u32 0] : List Value) ++ (aU32 (List.replicate 256 0) ++ (([vI 0] : List Value))))),(2,.rd a 1 [[.int .u8 120]])]) Tryz.func89 rfl Tryz.ntmps89 (Nat.le_of_ble_eq_true rfl) (hg.start rfl) ?_
  refine GS.conv (env' := [(0,pA b 0),(1,.slice a 1 c)]) rfl rfl ?_
  refine GS.seq ?_
  refine GS.tzM (fun _ => [(0,pA b 0),(1,.slice a 1 c)]) [] ?_
  intro _
  refine GS.seq ?_
  refine GS.seq ?_
  refine GS.tzM (fun _ => [(0,pA b 0),(1,.slice a 1 c),(9,.bool false)]) [] ?_
  intro _
  refine GS.cond (t := false) rfl rfl (fun hf => by cases hf) (fun _ => ?_)
  refine GS.skip ?_
  refine GS.seq ?_
  refine GS.open_ ?_
  refine GR.rM (i := 0) 3 (env' := fun _ => [(0,pA b 0),(1,.slice a 1 c),(12,pA b 259)]) (by kernel_rfl) (RunsTo.mk [] [0,1,12] [1,2] (fun _ => []) (fun _ => by kernel_rfl) (fun _ => trivial)) ?_
  intro _
  refine GR.callG (X := Unit) (i := 3) (g := 109) (ro := []) (mem' := fun (_ : Unit) => [(1,.cells b 190 (([.int .u32 0,.int .i32 0,.int .u32 0] : List Value) ++ (aU32 (List.replicate 256 0) ++ (([vI 1] : List Value))))),(2,.rd a 1 [[.int .u8 120]])]) (env' := fun (_ : Unit) => [(0,pA b 0),(1,.slice a 1 c)]) [1] [1] [0,1] [1,2] false (by kernel_rfl) (by kernel_rfl) (by kernel_rfl) (by kernel_rfl) (by kernel_rfl) (fun _ => rfl) (fun _ _ => rfl) trivial (by rintro _; kernel_rfl) (by rintro _; kernel_rfl) (add_ok b 0 0 0 (List.replicate 256 0) 0 1 (List.length_replicate ..)) ?_
  rintro _
  refine GR.dn (by kernel_rfl) ?_
  refine GS.seq ?_
  refine bnd_elim hm (fun y6 e7 hm => ?_)
  refine GS.open_ ?_
  refine GR.rM (i := 0) 5 (env' := fun _ => [(0,pA b 0),(1,.slice a 1 c),(16,pA b 0),(18,.func (.func 111) #[pA b 0] #[])]) (by kernel_rfl) (RunsTo.mk [] [0,1,16,18] [1,2] (fun _ => []) (fun _ => by kernel_rfl) (fun _ => trivial)) ?_
  intro _
  refine GR.callG (X := Unit) (i := 5) (g := 110) (ro := []) (mem' := fun (_ : Unit) => [(1,.cells b 190 (([.int .u32 1,.int .i32 0,.int .u32 0] : List Value) ++ (aU32 y6 ++ (([vI 1] : List Value))))),(2,.rd a 1 [[.int .u8 120]])]) (env' := fun (_ : Unit) => [(0,pA b 0),(1,.slice a 1 c)]) [1] [1] [0,1] [1,2] false (by kernel_rfl) (by kernel_rfl) (by kernel_rfl) (by kernel_rfl) (by kernel_rfl) (fun _ => rfl) (fun _ _ => rfl) trivial (by rintro _; kernel_rfl) (by rintro _; kernel_rfl) (do_ok F b 0 0 0 (List.replicate 256 0) 1 e7) ?_
  rintro _
  refine GR.dn (by kernel_rfl) ?_
  refine GS.seq ?_
  refine GS.tzM (fun _ => [(0,pA b 0),(1,.slice a 1 c),(5,.int .u32 4294967295)]) [] ?_
  intro _
  refine GS.seq ?_
  refine GS.seq ?_
  refine GS.tzM (fun _ => [(0,pA b 0),(5,.int .u32 4294967295),(20,.slice a 1 c),(21,vI 1),(22,vI 0)]) [] ?_
  intro _
  refine GS.block ?_
  refine GS.loop ?_
  refine GS.seq ?_
  refine GS.tzM (fun _ => [(0,pA b 0),(5,.int .u32 4294967295),(20,.slice a 1 c),(21,vI 1),(22,vI 0),(23,.bool true)]) [] ?_
  intro _
  refine GS.seq ?_
  refine GS.cond (t := true) rfl rfl (fun _ => ?_) (fun hf => by cases hf)
  refine GS.skip ?_
  refine GS.seq ?_
  refine GS.block ?_
  refine GS.seq ?_
  refine GS.tgM (fun _ => [(0,pA b 0),(5,.int .u32 4294967295),(7,.int .u8 120),(20,.slice a 1 c),(21,vI 1),(22,vI 0)]) [(0,{ act := .idx 2 0 }),(1,{ act := .load 2 0 0 [.int .u8 120] })] (fun _ => [a = a,1 = ([[.int .u8 120]] : List (List Value)).length,(0 : Int) = (0 : Int),0 < 1,blk a = blk a,offs a + 0 * 1 = offs a + (0 * 1 + 0),([[.int .u8 120]] : List (List Value))[0]? = some [.int .u8 120]]) (fun _ => ⟨rfl,rfl,rfl,(Nat.le_of_ble_eq_true rfl),rfl,rfl,rfl,trivial⟩) ?_
  intro _
  refine grd_elim hm (fun d hm => ?_)
  refine GS.tgM (fun _ => [(0,pA b 0),(5,.int .u32 (ixor .u32 16777215 (y6.getD 135 0))),(20,.slice a 1 c),(21,vI 1),(22,vI 0)]) [(10,{ act := .loadC 1 [.int .u32 (y6.getD 135 0)] })] (fun _ => [b = b,(([.int .u32 1,.int .i32 0,.int .u32 0] : List Value) ++ (aU32 y6 ++ (([vI 1] : List Value))))[138]? = some (.int .u32 (y6.getD 135 0))]) (fun _ => ⟨rfl,aU32_at2 (pre := ([.int .u32 1,.int .i32 0,.int .u32 0] : List Value)) (m := 3) rfl d (by omega),trivial⟩) ?_
  intro _
  refine GS.inBlock ?_
  refine GS.tzM (fun _ => [(0,pA b 0),(5,.int .u32 (ixor .u32 16777215 (y6.getD 135 0))),(20,.slice a 1 c),(21,vI 1),(22,vI 1)]) [] ?_
  intro _
  refine GS.inLoop ?_
  refine GS.seq ?_
  refine GS.tzM (fun _ => [(0,pA b 0),(5,.int .u32 (ixor .u32 16777215 (y6.getD 135 0))),(20,.slice a 1 c),(21,vI 1),(22,vI 1),(23,.bool false)]) [] ?_
  intro _
  refine GS.seq ?_
  refine GS.cond (t := false) rfl rfl (fun hf => by cases hf) (fun _ => ?_)
  refine GS.exit rfl ?_
  refine GS.seq ?_
  refine GS.tz (fun _ => [(4,.int .u32 (ixor .u32 4294967295 (ixor .u32 16777215 (y6.getD 135 0))))]) (fun _ => [(1,.cells b 190 (([.int .u32 1,.int .i32 0,.int .u32 0] : List Value) ++ (aU32 y6 ++ (([vI 1] : List Value)))))]) [] ?_
  intro _
  have hy := Option.some.inj hm
  subst hy
  refine GS.ret (fn := Tryz.f89) [0] [.int .u32 (ixor .u32 4294967295 (ixor .u32 16777215 (y6.getD 135 0)))] [] rfl Tryz.func89 (by kernel_rfl) trivial (fun w' hs => ?_)
  exact ⟨(),rfl,hs.turnedG (ks := [1]) rfl rfl⟩

theorem w_cmp_isNaN_int_ (F : Nat) {y : Unit} (hm : m_cmp_isNaN_int_ F = some y) : CallG Tryz.prog 75 #[vI 3] (X := Unit) (fun (_ : Unit) => .bool false) [] [] (fun (_ : Unit) => []) := by
  intro w hg
  rw [m_cmp_isNaN_int_] at hm
  refine GS.start (S := mayT [] []) (mem := []) Tryz.func75 rfl Tryz.ntmps75 (Nat.le_of_ble_eq_true rfl) (hg.start rfl) ?_
  refine GS.conv (env' := [(0,vI 3)]) rfl rfl ?_
  refine GS.seq ?_
  refine GS.tzM (fun _ => [(0,vI 3)]) [] ?_
  intro _
  refine GS.seq ?_
  refine GS.tzM (fun _ => [(2,.bool false)]) [] ?_
  intro _
  have hy := Option.some.inj hm
  subst hy
  refine GS.ret (fn := Tryz.f75) [0] [.bool false] [] rfl Tryz.func75 (by kernel_rfl) trivial (fun w' hs => ?_)
  exact ⟨(),rfl,hs.turnedG (ks := []) rfl rfl⟩

theorem w_cmp_isNaN_int__2 (F : Nat) {y : Unit} (hm : m_cmp_isNaN_int__2 F = some y) : CallG Tryz.prog 75 #[vI 0] (X := Unit) (fun (_ : Unit) => .bool false) [] [] (fun (_ : Unit) => []) := by
  intro w hg
  rw [m_cmp_isNaN_int__2] at hm
  refine GS.start (S := mayT [] []) (mem := []) Tryz.func75 rfl Tryz.ntmps75 (Nat.le_of_ble_eq_true rfl) (hg.start rfl) ?_
  refine GS.conv (env' := [(0,vI 0)]) rfl rfl ?_
  refine GS.seq ?_
  refine GS.tzM (fun _ => [(0,vI 0)]) [] ?_
  intro _
  refine GS.seq ?_
  refine GS.tzM (fun _ => [(2,.bool false)]) [] ?_
  intro _
  have hy := Option.some.inj hm
  subst hy
  refine GS.ret (fn := Tryz.f75) [0] [.bool false] [] rfl Tryz.func75 (by kernel_rfl) trivial (fun w' hs => ?_)
  exact ⟨(),rfl,hs.turnedG (ks := []) rfl rfl⟩

theorem w_cmp_Compare_int_ (F : Nat) {y : Unit} (hm : m_cmp_Compare_int_ F = some y) : CallG Tryz.prog 51 #[vI 3,vI 0] (X := Unit) (fun (_ : Unit) => vI 1) [] [] (fun (_ : Unit) => []) := by
  intro w hg
  rw [m_cmp_Compare_int_] at hm
  refine GS.start (S := mayT [] []) (mem := []) Tryz.func51 rfl Tryz.ntmps51 (Nat.le_of_ble_eq_true rfl) (hg.start rfl) ?_
  refine GS.conv (env' := [(0,vI 3),(1,vI 0)]) rfl rfl ?_
  refine GS.seq ?_
  refine GS.tzM (fun _ => [(0,vI 3),(1,vI 0)]) [] ?_
  intro _
  refine GS.seq ?_
  refine bnd_elim hm (fun y3 e4 hm => ?_)
  refine GS.tgM (fun _ => [(0,vI 3),(1,vI 0),(5,.bool false)]) [(1,{ act := .call [] (.bool false) })] (fun _ => [CallOK Tryz.prog 75 #[vI 3] (.bool false) []]) (fun _ => ⟨(by have h1 := w_cmp_isNaN_int_ F  e4; exact h1.ok trivial),trivial⟩) ?_
  intro _
  refine GS.seq ?_
  refine bnd_elim hm (fun y6 e7 hm => ?_)
  refine GS.tgM (fun _ => [(0,vI 3),(1,vI 0),(5,.bool false),(6,.bool false)]) [(1,{ act := .call [] (.bool false) })] (fun _ => [CallOK Tryz.prog 75 #[vI 0] (.bool false) []]) (fun _ => ⟨(by have h1 := w_cmp_isNaN_int__2 F  e7; exact h1.ok trivial),trivial⟩) ?_
  intro _
  refine GS.seq ?_
  refine GS.seq ?_
  refine GS.tzM (fun _ => [(0,vI 3),(1,vI 0),(6,.bool false),(11,.bool false)]) [] ?_
  intro _
  refine GS.cond (t := false) rfl rfl (fun hf => by cases hf) (fun _ => ?_)
  refine GS.skip ?_
  refine GS.seq ?_
  refine GS.seq ?_
  refine GS.tzM (fun _ => [(0,vI 3),(1,vI 0),(13,.bool false)]) [] ?_
  intro _
  refine GS.cond (t := false) rfl rfl (fun hf => by cases hf) (fun _ => ?_)
  refine GS.skip ?_
  refine GS.seq ?_
  refine GS.seq ?_
  refine GS.tzM (fun _ => [(0,vI 3),(1,vI 0),(16,.bool false)]) [] ?_
  intro _
  refine GS.cond (t := false) rfl rfl (fun hf => by cases hf) (fun _ => ?_)
  refine GS.skip ?_
  refine GS.seq ?_
  refine GS.seq ?_
  refine GS.tzM (fun _ => [(19,.bool true)]) [] ?_
  intro _
  refine GS.cond (t := true) rfl rfl (fun _ => ?_) (fun hf => by cases hf)
  refine GS.seq ?_
  refine GS.tzM (fun _ => [(4,vI 1)]) [] ?_
  intro _
  have hy := Option.some.inj hm
  subst hy
  refine GS.ret (fn := Tryz.f51) [0] [vI 1] [] rfl Tryz.func51 (by kernel_rfl) trivial (fun w' hs => ?_)
  exact ⟨(),rfl,hs.turnedG (ks := []) rfl rfl⟩

theorem w_pglog_Cmp (F : Nat) {y : Unit} (hm : m_pglog_Cmp F = some y) : CallG Tryz.prog 31 #[.agg #[vI 3,vI 1],.agg #[vI 0,vI 0]] (X := Unit) (fun (_ : Unit) => vI 1) [] [] (fun (_ : Unit) => []) := by
  intro w hg
  rw [m_pglog_Cmp] at hm
  refine GS.start (S := mayT [] []) (mem := []) Tryz.func31 rfl Tryz.ntmps31 (Nat.le_of_ble_eq_true rfl) (hg.start rfl) ?_
  refine GS.conv (env' := [(0,.agg #[vI 3,vI 1]),(1,.agg #[vI 0,vI 0])]) rfl rfl ?_
  refine GS.seq ?_
  refine GS.tz (fun a => [(2,pA ((a 0).x) 0),(3,pA ((a 1).x) 0)]) (fun a => [(1,.cells ((a 0).x) 23 [vI 3,vI 1]),(2,.cells ((a 1).x) 23 [vI 0,vI 0])]) [(0,{ act := .new .var,key := some 1 }),(1,{ act := .new .var,key := some 2 })] ?_
  intro a
  refine GS.seq ?_
  refine GS.seq ?_
  refine bnd_elim hm (fun y3 e4 hm => ?_)
  refine GS.tgM (fun _ => [(2,pA ((a 0).x) 0),(3,pA ((a 1).x) 0),(5,vI 1)]) [(1,{ act := .load 1 0 0 [] }),(3,{ act := .load 2 0 0 [] }),(4,{ act := .call [] (vI 1) })] (fun _ => [(a 0).x = (a 0).x,(a 1).x = (a 1).x,CallOK Tryz.prog 51 #[vI 3,vI 0] (vI 1) []]) (fun _ => ⟨rfl,rfl,(by have h1 := w_cmp_Compare_int_ F  e4; exact h1.ok trivial),trivial⟩) ?_
  intro _
  refine GS.seq ?_
  refine GS.tzM (fun _ => [(2,pA ((a 0).x) 0),(3,pA ((a 1).x) 0),(5,vI 1),(12,.bool true)]) [] ?_
  intro _
  refine GS.cond (t := true) rfl rfl (fun _ => ?_) (fun hf => by cases hf)
  refine GS.seq ?_
  refine GS.tz (fun _ => [(4,vI 1)]) (fun _ => []) [] ?_
  intro _
  have hy := Option.some.inj hm
  subst hy
  refine GS.ret (fn := Tryz.f31) [0] [vI 1] [] rfl Tryz.func31 (by kernel_rfl) trivial (fun w' hs => ?_)
  exact ⟨(),rfl,hs.turnedG (ks := []) rfl rfl⟩

theorem w_pglog_Copy_2 (F : Nat) (h : Option Addr) (k : Nat) (e : Option Addr) (j : Nat) (b : Option Addr) (i : Nat) {y : Unit} (hm : m_pglog_Copy_2 F = some y) : CallG Tryz.prog 32 #[.agg ((kc9 h k e j b i)).toArray] (X := Option Addr × Nat × Option Addr × Nat × Option Addr × Nat) (fun ⟨x0,x1,x2,x3,x4,x5⟩ => .agg ((kc9 x0 x1 x2 x3 x4 x5)).toArray) [] [.rd h 7 [],.rd e 5 [],.rd b 4 []] (fun ⟨x0,x1,x2,x3,x4,x5⟩ => [.osl x0 x1 31 7 [],.osl x2 x3 94 5 [],.osl x4 x5 91 4 []]) := by
  intro w hg
  rw [m_pglog_Copy_2] at hm
  refine GS.start (S := mayT [] [.rd h 7 [],.rd e 5 [],.rd b 4 []]) (mem := [(1,.rd h 7 []),(2,.rd e 5 []),(3,.rd b 4 [])]) Tryz.func32 rfl Tryz.ntmps32 (Nat.le_of_ble_eq_true rfl) (hg.start rfl) ?_
  refine GS.conv (env' := [(0,.agg ((kc9 h k e j b i)).toArray)]) rfl rfl ?_
  refine GS.seq ?_
  refine GS.tz (fun c => [(1,pA ((c 0).x) 0),(2,pA ((c 1).x) 0)]) (fun c => [(1,.rd h 7 []),(2,.rd e 5 []),(3,.rd b 4 []),(4,.cells ((c 0).x) 28 (kc9 h k e j b i)),(5,.cells ((c 1).x) 28 (kc6))]) [(0,{ act := .new .var,key := some 4 }),(1,{ act := .new .var,key := some 5 })] ?_
  intro c
  refine GS.seq ?_
  refine GS.tg (fun a => [(1,pA ((c 0).x) 0),(2,pA ((c 1).x) 0)]) (fun a => [(2,.rd e 5 []),(3,.rd b 4 []),(4,.cells ((c 0).x) 28 (kc9 ((a 2).ob) ((a 2).cap) e j b i)),(5,.cells ((c 1).x) 28 (kc6)),(6,.osl ((a 2).ob) ((a 2).cap) 31 7 ([] : List (List Value)))]) [(1,{ act := .load 4 0 0 [] }),(2,{ act := .app (some 1),key := some 6,spf := some (fun f => .slice (f.ob) 0 (f.cap)) }),(4,{ act := .store 0 0 [],key := some 4 })] (fun a => [(c 0).x = (c 0).x,h = h,0 = ([] : List (List Value)).length,0 = 0,0 = 0,([] : List (List Value)).length * (64 + 1) ≤ 70368744177664,((.slice ((a 2).ob) (0 + ([] : List (List Value)).length) ((a 2).cap)) : Value) = .slice ((a 2).ob) 0 ((a 2).cap),(c 0).x = (c 0).x,oC (.slice ((a 2).ob) 0 ((a 2).cap))]) (fun a => ⟨rfl,rfl,rfl,rfl,rfl,(show 0 * (64 + 1) ≤ 70368744177664 by decide),rfl,rfl,rfl,trivial⟩) ?_
  intro a
  refine GS.conv (mem' := [(2,.rd e 5 []),(3,.rd b 4 []),(4,.cells ((c 0).x) 28 (kc9 ((a 2).ob) ((a 2).cap) e j b i)),(5,.cells ((c 1).x) 28 (kc6)),(6,.osl ((a 2).ob) ((a 2).cap) 31 7 [])]) rfl (congrArg (fun rr : List (List Value) => ([(2,.rd e 5 []),(3,.rd b 4 []),(4,.cells ((c 0).x) 28 (kc9 ((a 2).ob) ((a 2).cap) e j b i)),(5,.cells ((c 1).x) 28 (kc6)),(6,.osl ((a 2).ob) ((a 2).cap) 31 7 rr)] : List (Nat × Ent))) (show ([] : List (List Value)) = ([] : List (List Value)) from rfl)) ?_
  refine GS.seq ?_
  refine GS.tg (fun d => [(1,pA ((c 0).x) 0),(2,pA ((c 1).x) 0)]) (fun d => [(3,.rd b 4 []),(4,.cells ((c 0).x) 28 (kc9 ((a 2).ob) ((a 2).cap) ((d 2).ob) ((d 2).cap) b i)),(5,.cells ((c 1).x) 28 (kc6)),(6,.osl ((a 2).ob) ((a 2).cap) 31 7 []),(7,.osl ((d 2).ob) ((d 2).cap) 94 5 ([] : List (List Value)))]) [(1,{ act := .load 4 0 0 [] }),(2,{ act := .app (some 2),key := some 7,spf := some (fun f => .slice (f.ob) 0 (f.cap)) }),(4,{ act := .store 0 0 [],key := some 4 })] (fun d => [(c 0).x = (c 0).x,e = e,0 = ([] : List (List Value)).length,0 = 0,0 = 0,([] : List (List Value)).length * (40 + 1) ≤ 70368744177664,((.slice ((d 2).ob) (0 + ([] : List (List Value)).length) ((d 2).cap)) : Value) = .slice ((d 2).ob) 0 ((d 2).cap),(c 0).x = (c 0).x,oC (.slice ((d 2).ob) 0 ((d 2).cap))]) (fun d => ⟨rfl,rfl,rfl,rfl,rfl,(show 0 * (40 + 1) ≤ 70368744177664 by decide),rfl,rfl,rfl,trivial⟩) ?_
  intro d
  refine GS.conv (mem' := [(3,.rd b 4 []),(4,.cells ((c 0).x) 28 (kc9 ((a 2).ob) ((a 2).cap) ((d 2).ob) ((d 2).cap) b i)),(5,.cells ((c 1).x) 28 (kc6)),(6,.osl ((a 2).ob) ((a 2).cap) 31 7 []),(7,.osl ((d 2).ob) ((d 2).cap) 94 5 [])]) rfl (congrArg (fun rr : List (List Value) => ([(3,.rd b 4 []),(4,.cells ((c 0).x) 28 (kc9 ((a 2).ob) ((a 2).cap) ((d 2).ob) ((d 2).cap) b i)),(5,.cells ((c 1).x) 28 (kc6)),(6,.osl ((a 2).ob) ((a 2).cap) 31 7 []),(7,.osl ((d 2).ob) ((d 2).cap) 94 5 rr)] : List (Nat × Ent))) (show ([] : List (List Value)) = ([] : List (List Value)) from rfl)) ?_
  refine GS.seq ?_
  refine GS.tg (fun g => [(1,pA ((c 0).x) 0),(2,pA ((c 1).x) 0)]) (fun g => [(4,.cells ((c 0).x) 28 (kc9 ((a 2).ob) ((a 2).cap) ((d 2).ob) ((d 2).cap) ((g 2).ob) ((g 2).cap))),(5,.cells ((c 1).x) 28 (kc6)),(6,.osl ((a 2).ob) ((a 2).cap) 31 7 []),(7,.osl ((d 2).ob) ((d 2).cap) 94 5 []),(8,.osl ((g 2).ob) ((g 2).cap) 91 4 ([] : List (List Value)))]) [(1,{ act := .load 4 0 0 [] }),(2,{ act := .app (some 3),key := some 8,spf := some (fun f => .slice (f.ob) 0 (f.cap)) }),(4,{ act := .store 0 0 [],key := some 4 })] (fun g => [(c 0).x = (c 0).x,b = b,0 = ([] : List (List Value)).length,0 = 0,0 = 0,([] : List (List Value)).length * (40 + 1) ≤ 70368744177664,((.slice ((g 2).ob) (0 + ([] : List (List Value)).length) ((g 2).cap)) : Value) = .slice ((g 2).ob) 0 ((g 2).cap),(c 0).x = (c 0).x,oC (.slice ((g 2).ob) 0 ((g 2).cap))]) (fun g => ⟨rfl,rfl,rfl,rfl,rfl,(show 0 * (40 + 1) ≤ 70368744177664 by decide),rfl,rfl,rfl,trivial⟩) ?_
  intro g
  refine GS.conv (mem' := [(4,.cells ((c 0).x) 28 (kc9 ((a 2).ob) ((a 2).cap) ((d 2).ob) ((d 2).cap) ((g 2).ob) ((g 2).cap))),(5,.cells ((c 1).x) 28 (kc6)),(6,.osl ((a 2).ob) ((a 2).cap) 31 7 []),(7,.osl ((d 2).ob) ((d 2).cap) 94 5 []),(8,.osl ((g 2).ob) ((g 2).cap) 91 4 [])]) rfl (congrArg (fun rr : List (List Value) => ([(4,.cells ((c 0).x) 28 (kc9 ((a 2).ob) ((a 2).cap) ((d 2).ob) ((d 2).cap) ((g 2).ob) ((g 2).cap))),(5,.cells ((c 1).x) 28 (kc6)),(6,.osl ((a 2).ob) ((a 2).cap) 31 7 []),(7,.osl ((d 2).ob) ((d 2).cap) 94 5 []),(8,.osl ((g 2).ob) ((g 2).cap) 91 4 rr)] : List (Nat × Ent))) (show ([] : List (List Value)) = ([] : List (List Value)) from rfl)) ?_
  refine GS.seq ?_
  refine GS.tg (fun _ => [(2,pA ((c 1).x) 0)]) (fun _ => [(5,.cells ((c 1).x) 28 (kc9 ((a 2).ob) ((a 2).cap) ((d 2).ob) ((d 2).cap) ((g 2).ob) ((g 2).cap))),(6,.osl ((a 2).ob) ((a 2).cap) 31 7 []),(7,.osl ((d 2).ob) ((d 2).cap) 94 5 []),(8,.osl ((g 2).ob) ((g 2).cap) 91 4 [])]) [(0,{ act := .load 4 0 0 [] }),(1,{ act := .store 0 0 [],key := some 5 })] (fun _ => [(c 0).x = (c 0).x,(c 1).x = (c 1).x,oC (.agg ((kc9 ((a 2).ob) ((a 2).cap) ((d 2).ob) ((d 2).cap) ((g 2).ob) ((g 2).cap))).toArray)]) (fun _ => ⟨rfl,rfl,rfl,trivial⟩) ?_
  intro _
  have hy := Option.some.inj hm
  subst hy
  refine GS.ret (fn := Tryz.f32) [5] [.agg ((kc9 ((a 2).ob) ((a 2).cap) ((d 2).ob) ((d 2).cap) ((g 2).ob) ((g 2).cap))).toArray] [(c 1).x = (c 1).x] rfl Tryz.func32 (by kernel_rfl) ⟨rfl,trivial⟩ (fun w' hs => ?_)
  exact ⟨⟨(a 2).ob,(a 2).cap,(d 2).ob,(d 2).cap,(g 2).ob,(g 2).cap⟩,rfl,hs.turnedG (ks := [6,7,8]) rfl rfl⟩

theorem w_slices_BinarySearchFunc___api_Last_api_Last_int_ (F : Nat) (a : Option Addr) (b : Nat) (a2c0b : Nat) {y : Unit} (hm : m_slices_BinarySearchFunc___api_Last_api_Last_int_ F = some y) : CallG Tryz.prog 76 #[.slice a 0 b,vI 5,.func (.func 77) #[] #[pA a2c0b 0]] (X := Unit) (fun (_ : Unit) => .tuple #[vI 0,.bool false]) [] [.rd a 5 [],.rd (some ⟨a2c0b,0,none⟩) 1 [[.func (.func 53) #[] #[]]]] (fun (_ : Unit) => []) := by
  intro w hg
  rw [m_slices_BinarySearchFunc___api_Last_api_Last_int_] at hm
  refine GS.start (S := mayT [] [.rd a 5 [],.rd (some ⟨a2c0b,0,none⟩) 1 [[.func (.func 53) #[] #[]]]]) (mem := [(1,.rd a 5 []),(2,.rd (some ⟨a2c0b,0,none⟩) 1 [[.func (.func 53) #[] #[]]])]) Tryz.func76 rfl Tryz.ntmps76 (Nat.le_of_ble_eq_true rfl) (hg.start rfl) ?_
  refine GS.conv (env' := [(0,.slice a 0 b),(1,vI 5),(2,.func (.func 77) #[] #[pA a2c0b 0])]) rfl rfl ?_
  refine GS.seq ?_
  refine GS.tzM (fun _ => [(0,.slice a 0 b),(1,vI 5),(2,.func (.func 77) #[] #[pA a2c0b 0])]) [] ?_
  intro _
  refine GS.seq ?_
  refine GS.tzM (fun _ => [(0,.slice a 0 b),(1,vI 5),(2,.func (.func 77) #[] #[pA a2c0b 0]),(8,vI 0)]) [] ?_
  intro _
  refine GS.seq ?_
  refine GS.tzM (fun _ => [(0,.slice a 0 b),(1,vI 5),(2,.func (.func 77) #[] #[pA a2c0b 0]),(8,vI 0),(9,vI 0),(10,vI 0)]) [] ?_
  intro _
  refine GS.seq ?_
  refine GS.block ?_
  refine GS.loop ?_
  refine GS.seq ?_
  refine GS.seq ?_
  refine GS.tzM (fun _ => [(0,.slice a 0 b),(1,vI 5),(2,.func (.func 77) #[] #[pA a2c0b 0]),(8,vI 0),(9,vI 0),(10,vI 0),(17,.bool false)]) [] ?_
  intro _
  refine GS.cond (t := false) rfl rfl (fun hf => by cases hf) (fun _ => ?_)
  refine GS.exit rfl ?_
  refine GS.seq ?_
  refine GS.tz (fun _ => [(6,vI 0),(7,.bool false)]) (fun _ => []) [] ?_
  intro _
  have hy := Option.some.inj hm
  subst hy
  refine GS.ret (fn := Tryz.f76) [0,0] [vI 0,.bool false] [] rfl Tryz.func76 (by kernel_rfl) trivial (fun w' hs => ?_)
  exact ⟨(),rfl,hs.turnedG (ks := []) rfl rfl⟩

theorem w_pglog_look_api_Last_int_ (F : Nat) (a : Option Addr) (c : Nat) {y : Unit} (hm : m_pglog_look_api_Last_int_ F = some y) : CallG Tryz.prog 52 #[.slice a 0 c,.func (.func 53) #[] #[],vI 5] (X := Unit) (fun (_ : Unit) => .tuple #[vI 0,.bool false]) [] [.rd a 5 []] (fun (_ : Unit) => []) := by
  intro w hg
  rw [m_pglog_look_api_Last_int_] at hm
  refine GS.start (S := mayT [] [.rd a 5 []]) (mem := [(1,.rd a 5 [])]) Tryz.func52 rfl Tryz.ntmps52 (Nat.le_of_ble_eq_true rfl) (hg.start rfl) ?_
  refine GS.conv (env' := [(0,.slice a 0 c),(1,.func (.func 53) #[] #[]),(2,vI 5)]) rfl rfl ?_
  refine GS.seq ?_
  refine GS.tz (fun b => [(0,.slice a 0 c),(2,vI 5),(4,pA ((b 0).x) 0)]) (fun b => [(1,.rd a 5 []),(2,.cells ((b 0).x) 115 [.func (.func 53) #[] #[]])]) [(0,{ act := .new .var,key := some 2 })] ?_
  intro b
  refine GS.seq ?_
  refine bnd_elim hm (fun y3 e4 hm => ?_)
  refine GS.tg (fun _ => [(6,vI 0),(7,.bool false)]) (fun _ => []) [(3,{ act := .call [1,2] (.tuple #[vI 0,.bool false]) })] (fun _ => [CallOK Tryz.prog 76 #[.slice a 0 c,vI 5,.func (.func 77) #[] #[pA ((b 0).x) 0]] (.tuple #[vI 0,.bool false]) [some (.rd a 5 []),some (.cells ((b 0).x) 115 [.func (.func 53) #[] #[]])]]) (fun _ => ⟨(by have h1 := w_slices_BinarySearchFunc___api_Last_api_Last_int_ F a c (b 0).x e4; exact h1.ok ⟨(.inl ⟨.rd a 5 [],.head _,Cov.refl _⟩),(.inl ⟨.cells ((b 0).x) 115 [.func (.func 53) #[] #[]],(.tail _ (.head _)),Cov.cells_rd⟩),trivial⟩),trivial⟩) ?_
  intro _
  have hy := Option.some.inj hm
  subst hy
  refine GS.ret (fn := Tryz.f52) [0,0] [vI 0,.bool false] [] rfl Tryz.func52 (by kernel_rfl) trivial (fun w' hs => ?_)
  exact ⟨(),rfl,hs.turnedG (ks := []) rfl rfl⟩

theorem w_slices_Insert___api_Last_api_Last_ (F : Nat) (c : Option Addr) (b : Nat) (e : Option Addr) (g : Nat) (i : 0 ≤ b) {y : Unit} (hm : m_slices_Insert___api_Last_api_Last_ F = some y) : CallG Tryz.prog 54 #[.slice c 0 b,vI 0,.slice e 1 g] (X := Option Addr × Nat) (fun ⟨x0,x1⟩ => .slice x0 1 x1) [.osl c b 94 5 []] [.rd e 5 [(kc24)]] (fun ⟨x0,x1⟩ => [.osl x0 x1 94 5 [(kc24)]]) := by
  intro w hg
  rw [m_slices_Insert___api_Last_api_Last_] at hm
  refine GS.start (S := mayT [.osl c b 94 5 []] [.rd e 5 [(kc24)]]) (mem := [(1,.osl c b 94 5 []),(2,.rd e 5 [(kc24)])]) Tryz.func54 rfl Tryz.ntmps54 (Nat.le_of_ble_eq_true rfl) (hg.start rfl) ?_
  refine GS.conv (env' := [(0,.slice c 0 b),(1,vI 0),(2,.slice e 1 g)]) rfl rfl ?_
  refine GS.seq ?_
  refine GS.tzM (fun _ => [(0,.slice c 0 b),(1,vI 0),(2,.slice e 1 g)]) [] ?_
  intro _
  refine GS.seq ?_
  refine GS.tgM (fun _ => [(0,.slice c 0 b),(1,vI 0),(2,.slice e 1 g)]) [(2,{ act := .cut 0 0 b,sp := some (.slice (cutOb c 0 b 5) 0 (b - 0)) })] (fun _ => [0 = (0 : Int),0 = 0,b = b,0 ≤ 0,0 ≤ b,b ≤ b,(none : Option Operand) = none → (none : Option Operand) = none,((.slice (if b = 0 then c else (c).map (fun a => a.add (0 * 5))) (0 - 0) (b - 0)) : Value) = .slice (cutOb c 0 b 5) 0 (b - 0)]) (fun _ => ⟨rfl,rfl,rfl,(Nat.le_of_ble_eq_true rfl),i,(Nat.le_refl _),(by intro h; first | rfl | cases h),rfl,trivial⟩) ?_
  intro _
  refine GS.seq ?_
  refine GS.tzM (fun _ => [(0,.slice c 0 b),(1,vI 0),(2,.slice e 1 g),(7,vI 1)]) [] ?_
  intro _
  refine GS.seq ?_
  refine GS.seq ?_
  refine GS.tzM (fun _ => [(0,.slice c 0 b),(1,vI 0),(2,.slice e 1 g),(7,vI 1),(16,.bool false)]) [] ?_
  intro _
  refine GS.cond (t := false) rfl rfl (fun hf => by cases hf) (fun _ => ?_)
  refine GS.skip ?_
  refine GS.seq ?_
  refine GS.tzM (fun _ => [(0,.slice c 0 b),(1,vI 0),(2,.slice e 1 g),(7,vI 1),(8,vI 0)]) [] ?_
  intro _
  refine GS.seq ?_
  refine GS.seq ?_
  refine GS.tzM (fun _ => [(0,.slice c 0 b),(1,vI 0),(2,.slice e 1 g),(7,vI 1),(8,vI 0),(22,.bool true)]) [] ?_
  intro _
  refine GS.cond (t := true) rfl rfl (fun _ => ?_) (fun hf => by cases hf)
  refine GS.seq ?_
  refine GS.tg (fun d => [(6,.slice ((d 2).ob) 1 ((d 2).cap))]) (fun d => [(1,.osl ((d 2).ob) ((d 2).cap) 94 5 (([] : List (List Value)) ++ ([(kc24)] : List (List Value))))]) [(2,{ act := .app (some 2),key := some 1,spf := some (fun f => .slice (f.ob) 1 (f.cap)) })] (fun d => [e = e,1 = ([(kc24)] : List (List Value)).length,c = c,b = b,0 = ([] : List (List Value)).length,(([] : List (List Value)).length + ([(kc24)] : List (List Value)).length) * (40 + 1) ≤ 70368744177664,([(kc24)] : List (List Value)).flatten.all Value.oneCell' = true,((.slice ((d 2).ob) (0 + ([(kc24)] : List (List Value)).length) ((d 2).cap)) : Value) = .slice ((d 2).ob) 1 ((d 2).cap)]) (fun d => ⟨rfl,rfl,rfl,rfl,rfl,(show (0 + 1) * (40 + 1) ≤ 70368744177664 by decide),rfl,rfl,trivial⟩) ?_
  intro d
  refine GS.conv (mem' := [(1,.osl ((d 2).ob) ((d 2).cap) 94 5 [(kc24)])]) rfl (congrArg (fun rr : List (List Value) => ([(1,.osl ((d 2).ob) ((d 2).cap) 94 5 rr)] : List (Nat × Ent))) (show ([] : List (List Value)) ++ ([(kc24)] : List (List Value)) = ([(kc24)] : List (List Value)) from rfl)) ?_
  have hy := Option.some.inj hm
  subst hy
  refine GS.ret (fn := Tryz.f54) [0] [.slice ((d 2).ob) 1 ((d 2).cap)] [] rfl Tryz.func54 (by kernel_rfl) trivial (fun w' hs => ?_)
  exact ⟨⟨(d 2).ob,(d 2).cap⟩,rfl,hs.turnedG (ks := [1]) rfl rfl⟩

theorem w_slices_BinarySearchFunc___api_Item_api_Item_string_ (F : Nat) (a : Option Addr) (b : Nat) (a2c0b : Nat) {y : Unit} (hm : m_slices_BinarySearchFunc___api_Item_api_Item_string_ F = some y) : CallG Tryz.prog 80 #[.slice a 0 b,.string (ByteArray.mk #[97]),.func (.func 81) #[] #[pA a2c0b 0]] (X := Unit) (fun (_ : Unit) => .tuple #[vI 0,.bool false]) [] [.rd a 4 [],.rd (some ⟨a2c0b,0,none⟩) 1 [[.func (.func 56) #[] #[]]]] (fun (_ : Unit) => []) := by
  intro w hg
  rw [m_slices_BinarySearchFunc___api_Item_api_Item_string_] at hm
  refine GS.start (S := mayT [] [.rd a 4 [],.rd (some ⟨a2c0b,0,none⟩) 1 [[.func (.func 56) #[] #[]]]]) (mem := [(1,.rd a 4 []),(2,.rd (some ⟨a2c0b,0,none⟩) 1 [[.func (.func 56) #[] #[]]])]) Tryz.func80 rfl Tryz.ntmps80 (Nat.le_of_ble_eq_true rfl) (hg.start rfl) ?_
  refine GS.conv (env' := [(0,.slice a 0 b),(1,.string (ByteArray.mk #[97])),(2,.func (.func 81) #[] #[pA a2c0b 0])]) rfl rfl ?_
  refine GS.seq ?_
  refine GS.tzM (fun _ => [(0,.slice a 0 b),(1,.string (ByteArray.mk #[97])),(2,.func (.func 81) #[] #[pA a2c0b 0])]) [] ?_
  intro _
  refine GS.seq ?_
  refine GS.tzM (fun _ => [(0,.slice a 0 b),(1,.string (ByteArray.mk #[97])),(2,.func (.func 81) #[] #[pA a2c0b 0]),(8,vI 0)]) [] ?_
  intro _
  refine GS.seq ?_
  refine GS.tzM (fun _ => [(0,.slice a 0 b),(1,.string (ByteArray.mk #[97])),(2,.func (.func 81) #[] #[pA a2c0b 0]),(8,vI 0),(9,vI 0),(10,vI 0)]) [] ?_
  intro _
  refine GS.seq ?_
  refine GS.block ?_
  refine GS.loop ?_
  refine GS.seq ?_
  refine GS.seq ?_
  refine GS.tzM (fun _ => [(0,.slice a 0 b),(1,.string (ByteArray.mk #[97])),(2,.func (.func 81) #[] #[pA a2c0b 0]),(8,vI 0),(9,vI 0),(10,vI 0),(17,.bool false)]) [] ?_
  intro _
  refine GS.cond (t := false) rfl rfl (fun hf => by cases hf) (fun _ => ?_)
  refine GS.exit rfl ?_
  refine GS.seq ?_
  refine GS.tz (fun _ => [(6,vI 0),(7,.bool false)]) (fun _ => []) [] ?_
  intro _
  have hy := Option.some.inj hm
  subst hy
  refine GS.ret (fn := Tryz.f80) [0,0] [vI 0,.bool false] [] rfl Tryz.func80 (by kernel_rfl) trivial (fun w' hs => ?_)
  exact ⟨(),rfl,hs.turnedG (ks := []) rfl rfl⟩

theorem w_pglog_look_api_Item_string_ (F : Nat) (a : Option Addr) (c : Nat) {y : Unit} (hm : m_pglog_look_api_Item_string_ F = some y) : CallG Tryz.prog 55 #[.slice a 0 c,.func (.func 56) #[] #[],.string (ByteArray.mk #[97])] (X := Unit) (fun (_ : Unit) => .tuple #[vI 0,.bool false]) [] [.rd a 4 []] (fun (_ : Unit) => []) := by
  intro w hg
  rw [m_pglog_look_api_Item_string_] at hm
  refine GS.start (S := mayT [] [.rd a 4 []]) (mem := [(1,.rd a 4 [])]) Tryz.func55 rfl Tryz.ntmps55 (Nat.le_of_ble_eq_true rfl) (hg.start rfl) ?_
  refine GS.conv (env' := [(0,.slice a 0 c),(1,.func (.func 56) #[] #[]),(2,.string (ByteArray.mk #[97]))]) rfl rfl ?_
  refine GS.seq ?_
  refine GS.tz (fun b => [(0,.slice a 0 c),(2,.string (ByteArray.mk #[97])),(4,pA ((b 0).x) 0)]) (fun b => [(1,.rd a 4 []),(2,.cells ((b 0).x) 118 [.func (.func 56) #[] #[]])]) [(0,{ act := .new .var,key := some 2 })] ?_
  intro b
  refine GS.seq ?_
  refine bnd_elim hm (fun y3 e4 hm => ?_)
  refine GS.tg (fun _ => [(6,vI 0),(7,.bool false)]) (fun _ => []) [(3,{ act := .call [1,2] (.tuple #[vI 0,.bool false]) })] (fun _ => [CallOK Tryz.prog 80 #[.slice a 0 c,.string (ByteArray.mk #[97]),.func (.func 81) #[] #[pA ((b 0).x) 0]] (.tuple #[vI 0,.bool false]) [some (.rd a 4 []),some (.cells ((b 0).x) 118 [.func (.func 56) #[] #[]])]]) (fun _ => ⟨(by have h1 := w_slices_BinarySearchFunc___api_Item_api_Item_string_ F a c (b 0).x e4; exact h1.ok ⟨(.inl ⟨.rd a 4 [],.head _,Cov.refl _⟩),(.inl ⟨.cells ((b 0).x) 118 [.func (.func 56) #[] #[]],(.tail _ (.head _)),Cov.cells_rd⟩),trivial⟩),trivial⟩) ?_
  intro _
  have hy := Option.some.inj hm
  subst hy
  refine GS.ret (fn := Tryz.f55) [0,0] [vI 0,.bool false] [] rfl Tryz.func55 (by kernel_rfl) trivial (fun w' hs => ?_)
  exact ⟨(),rfl,hs.turnedG (ks := []) rfl rfl⟩

end Go.Proofs.YtjnbkhnebmlilaaGreat
