/-
  CHAPTER 18t: the functions do what their models say (8).
-/
import Derived.Test.YtjnbkhnebmlilaaGreatE18t
import Derived.Test.YtjnbkhnebmlilaaGreatW18tf
import Derived.Test.YtjnbkhnebmlilaaGreatW18tg
set_option linter.unusedVariables false
set_option linter.unusedSimpArgs false
set_option maxRecDepth 100000
set_option maxHeartbeats 8000000
namespace Go.Proofs.YtjnbkhnebmlilaaGreat
open Go Go.RowKit Sx

theorem w_pglog_Trim_2 (F : Nat) (v : Int) (n : S_api_Version) (m : Option Addr) (u : Nat) (q : List S_api_Entry) (c : Option Addr) (r : Nat) (j : List S_api_Last) (d : Option Addr) (s : Nat) (l : List S_api_Item) (a1 : Int) {y : Int × S_api_Version × List S_api_Entry × List S_api_Last × List S_api_Item} (hm : m_pglog_Trim_2 F v n q j l a1 = some y) : CallG Tryz.prog 34 #[.agg ((kc0 v n.Epoch n.N m q.length u c j.length r d l.length s)).toArray,vI a1] (X := Option Addr × Nat × Option Addr × Nat × Option Addr × Nat) (fun ⟨x0,x1,x2,x3,x4,x5⟩ => .agg ((kc0 y.1 y.2.1.Epoch y.2.1.N x0 y.2.2.1.length x1 x2 y.2.2.2.1.length x3 x4 y.2.2.2.2.length x5)).toArray) [] [r31 m q,r94 c j,r91 d l] (fun ⟨x0,x1,x2,x3,x4,x5⟩ => [o31 x0 x1 y.2.2.1,o94 x2 x3 y.2.2.2.1,o91 x4 x5 y.2.2.2.2]) := by
  intro w hg
  rw [m_pglog_Trim_2] at hm
  refine GS.start (S := mayT [] [r31 m q,r94 c j,r91 d l]) (mem := [(1,r31 m q),(2,r94 c j),(3,r91 d l)]) Tryz.func34 rfl Tryz.ntmps34 (Nat.le_of_ble_eq_true rfl) (hg.start rfl) ?_
  refine GS.conv (env' := [(0,.agg ((kc0 v n.Epoch n.N m q.length u c j.length r d l.length s)).toArray),(1,vI a1)]) rfl rfl ?_
  refine GS.seq ?_
  refine GS.tz (fun b => [(1,vI a1),(2,pA ((b 0).x) 0),(4,pA ((b 1).x) 0)]) (fun b => [(1,r31 m q),(2,r94 c j),(3,r91 d l),(4,.cells ((b 0).x) 28 (kc0 v n.Epoch n.N m q.length u c j.length r d l.length s)),(5,.cells ((b 1).x) 28 (kc6))]) [(0,{ act := .new .var,key := some 4 }),(1,{ act := .new .var,key := some 5 })] ?_
  intro b
  refine GS.seq ?_
  refine bnd_elim hm (fun y3 e4 hm => ?_)
  refine GS.open_ ?_
  refine GR.rM (i := 0) 1 (env' := fun _ => [(1,vI a1),(2,pA ((b 0).x) 0),(4,pA ((b 1).x) 0),(6,.agg ((kc0 v n.Epoch n.N m q.length u c j.length r d l.length s)).toArray)]) (by kernel_rfl) (RunsTo.mk [(0,{ act := .load 4 0 0 [] })] [1,2,4,6] [1,2,3,4,5] (fun _ => [(b 0).x = (b 0).x]) (fun _ => by kernel_rfl) (fun _ => ⟨rfl,trivial⟩)) ?_
  intro _
  refine GR.callG (X := Option Addr × Nat × Option Addr × Nat × Option Addr × Nat) (i := 1) (g := 32) (ro := [r31 m q,r94 c j,r91 d l]) (mem' := fun ⟨x5,x6,x7,x8,x9,o⟩ => [(1,r31 m q),(2,r94 c j),(3,r91 d l),(4,.cells ((b 0).x) 28 (kc0 v n.Epoch n.N m q.length u c j.length r d l.length s)),(5,.cells ((b 1).x) 28 (kc6)),(6,o31 x5 x6 y3.2.2.1),(7,o94 x7 x8 y3.2.2.2.1),(8,o91 x9 o y3.2.2.2.2)]) (env' := fun ⟨x5,x6,x7,x8,x9,o⟩ => [(1,vI a1),(2,pA ((b 0).x) 0),(4,pA ((b 1).x) 0),(7,.agg ((kc0 y3.1 y3.2.1.Epoch y3.2.1.N x5 y3.2.2.1.length x6 x7 y3.2.2.2.1.length x8 x9 y3.2.2.2.2.length o)).toArray)]) [] [6,7,8] [1,2,4,7] [1,2,3,4,5,6,7,8] false (by kernel_rfl) (by kernel_rfl) (by kernel_rfl) (by kernel_rfl) (by kernel_rfl) (fun _ => rfl) (fun _ _ => rfl) ⟨(.inl ⟨1,_,rfl,rfl,Cov.refl _,fun h => by cases h⟩),(.inl ⟨2,_,rfl,rfl,Cov.refl _,fun h => by cases h⟩),(.inl ⟨3,_,rfl,rfl,Cov.refl _,fun h => by cases h⟩),trivial⟩ (by rintro ⟨x5,x6,x7,x8,x9,o⟩; kernel_rfl) (by rintro ⟨x5,x6,x7,x8,x9,o⟩; kernel_rfl) (w_pglog_Copy_4 F v n m u q c r j d s l e4) ?_
  rintro ⟨x5,x6,x7,x8,x9,o⟩
  refine GR.ru (i := 2) 1 (env' := fun _ => [(1,vI a1),(2,pA ((b 0).x) 0),(4,pA ((b 1).x) 0)]) (mem' := fun _ => [(4,.cells ((b 0).x) 28 (kc0 y3.1 y3.2.1.Epoch y3.2.1.N x5 y3.2.2.1.length x6 x7 y3.2.2.2.1.length x8 x9 y3.2.2.2.2.length o)),(5,.cells ((b 1).x) 28 (kc6)),(6,o31 x5 x6 y3.2.2.1),(7,o94 x7 x8 y3.2.2.2.1),(8,o91 x9 o y3.2.2.2.2)]) (by kernel_rfl) (RunsTo.mk [(2,{ act := .store 0 0 [],key := some 4 })] [1,2,4] [4,5,6,7,8] (fun _ => [(b 0).x = (b 0).x,oC (.agg ((kc0 y3.1 y3.2.1.Epoch y3.2.1.N x5 y3.2.2.1.length x6 x7 y3.2.2.2.1.length x8 x9 y3.2.2.2.2.length o)).toArray)]) (fun _ => by kernel_rfl) (fun _ => ⟨rfl,rfl,trivial⟩)) ?_
  intro _
  refine GR.dn (by kernel_rfl) ?_
  refine GS.seq ?_
  refine GS.seq ?_
  refine grd_elim hm (fun D hm => ?_)
  refine GS.tgM (fun _ => [(2,pA ((b 0).x) 0),(4,pA ((b 1).x) 0),(5,vI ((y3.2.2.1.length : Int) - (if 0 > a1 then 0 else a1)))]) [(1,{ act := .load 4 0 0 [] }),(5,{ sp := some (vI ((y3.2.2.1.length : Int) - (if 0 > a1 then 0 else a1))) })] (fun _ => [(b 0).x = (b 0).x,oW ((y3.2.2.1.length : Int) - (if 0 > a1 then 0 else a1))]) (fun _ => ⟨rfl,I64.w D,trivial⟩) ?_
  intro _
  refine GS.seq ?_
  refine GS.tzM (fun _ => [(2,pA ((b 0).x) 0),(4,pA ((b 1).x) 0),(5,vI ((y3.2.2.1.length : Int) - (if 0 > a1 then 0 else a1))),(15,.bool (decide (((y3.2.2.1.length : Int) - (if 0 > a1 then 0 else a1)) > 0)))]) [] ?_
  intro _
  refine GS.cond (t := decide (((y3.2.2.1.length : Int) - (if 0 > a1 then 0 else a1)) > 0)) rfl rfl (fun A => ?_) (fun A => ?_)
  · replace hm := br_t A hm
    refine GS.seq ?_
    refine grd_elim hm (fun E hm => ?_)
    refine grd_elim hm (fun B hm => ?_)
    refine GS.tg (fun _ => [(2,pA ((b 0).x) 0),(4,pA ((b 1).x) 0),(5,vI ((y3.2.2.1.length : Int) - (if 0 > a1 then 0 else a1)))]) (fun _ => [(4,.cells ((b 0).x) 28 (kc0 y3.1 (((y3.2.2.1.getD (Int.toNat (((y3.2.2.1.length : Int) - (if 0 > a1 then 0 else a1)) - 1)) dS_api_Entry).Version).Epoch) (((y3.2.2.1.getD (Int.toNat (((y3.2.2.1.length : Int) - (if 0 > a1 then 0 else a1)) - 1)) dS_api_Entry).Version).N) x5 y3.2.2.1.length x6 x7 y3.2.2.2.1.length x8 x9 y3.2.2.2.2.length o)),(5,.cells ((b 1).x) 28 (kc6)),(6,o31 x5 x6 y3.2.2.1),(7,o94 x7 x8 y3.2.2.2.1),(8,o91 x9 o y3.2.2.2.2)]) [(1,{ act := .load 4 0 0 [] }),(3,{ sp := some (vI (((y3.2.2.1.length : Int) - (if 0 > a1 then 0 else a1)) - 1)) }),(4,{ act := .idx 6 (Int.toNat (((y3.2.2.1.length : Int) - (if 0 > a1 then 0 else a1)) - 1)) }),(6,{ act := .load 6 (Int.toNat (((y3.2.2.1.length : Int) - (if 0 > a1 then 0 else a1)) - 1)) 0 [vI (((y3.2.2.1.getD (Int.toNat (((y3.2.2.1.length : Int) - (if 0 > a1 then 0 else a1)) - 1)) dS_api_Entry).Version).Epoch),vI (((y3.2.2.1.getD (Int.toNat (((y3.2.2.1.length : Int) - (if 0 > a1 then 0 else a1)) - 1)) dS_api_Entry).Version).N),.bool ((y3.2.2.1.getD (Int.toNat (((y3.2.2.1.length : Int) - (if 0 > a1 then 0 else a1)) - 1)) dS_api_Entry).Remove),vI ((y3.2.2.1.getD (Int.toNat (((y3.2.2.1.length : Int) - (if 0 > a1 then 0 else a1)) - 1)) dS_api_Entry).Errno),.string ((y3.2.2.1.getD (Int.toNat (((y3.2.2.1.length : Int) - (if 0 > a1 then 0 else a1)) - 1)) dS_api_Entry).Name),vI ((y3.2.2.1.getD (Int.toNat (((y3.2.2.1.length : Int) - (if 0 > a1 then 0 else a1)) - 1)) dS_api_Entry).Client),vI ((y3.2.2.1.getD (Int.toNat (((y3.2.2.1.length : Int) - (if 0 > a1 then 0 else a1)) - 1)) dS_api_Entry).Number)] }),(8,{ act := .store 0 0 [],key := some 4 })] (fun _ => [(b 0).x = (b 0).x,oW (((y3.2.2.1.length : Int) - (if 0 > a1 then 0 else a1)) - 1),x5 = x5,y3.2.2.1.length = (List.map S_api_Entry.row y3.2.2.1).length,((((y3.2.2.1.length : Int) - (if 0 > a1 then 0 else a1)) - 1) : Int) = (((Int.toNat (((y3.2.2.1.length : Int) - (if 0 > a1 then 0 else a1)) - 1)) : Nat) : Int),(Int.toNat (((y3.2.2.1.length : Int) - (if 0 > a1 then 0 else a1)) - 1)) < y3.2.2.1.length,blk x5 = blk x5,offs x5 + (Int.toNat (((y3.2.2.1.length : Int) - (if 0 > a1 then 0 else a1)) - 1)) * 7 = offs x5 + ((Int.toNat (((y3.2.2.1.length : Int) - (if 0 > a1 then 0 else a1)) - 1)) * 7 + 0),(List.map S_api_Entry.row y3.2.2.1)[(Int.toNat (((y3.2.2.1.length : Int) - (if 0 > a1 then 0 else a1)) - 1))]? = some [vI (((y3.2.2.1.getD (Int.toNat (((y3.2.2.1.length : Int) - (if 0 > a1 then 0 else a1)) - 1)) dS_api_Entry).Version).Epoch),vI (((y3.2.2.1.getD (Int.toNat (((y3.2.2.1.length : Int) - (if 0 > a1 then 0 else a1)) - 1)) dS_api_Entry).Version).N),.bool ((y3.2.2.1.getD (Int.toNat (((y3.2.2.1.length : Int) - (if 0 > a1 then 0 else a1)) - 1)) dS_api_Entry).Remove),vI ((y3.2.2.1.getD (Int.toNat (((y3.2.2.1.length : Int) - (if 0 > a1 then 0 else a1)) - 1)) dS_api_Entry).Errno),.string ((y3.2.2.1.getD (Int.toNat (((y3.2.2.1.length : Int) - (if 0 > a1 then 0 else a1)) - 1)) dS_api_Entry).Name),vI ((y3.2.2.1.getD (Int.toNat (((y3.2.2.1.length : Int) - (if 0 > a1 then 0 else a1)) - 1)) dS_api_Entry).Client),vI ((y3.2.2.1.getD (Int.toNat (((y3.2.2.1.length : Int) - (if 0 > a1 then 0 else a1)) - 1)) dS_api_Entry).Number)],(b 0).x = (b 0).x,oC (.agg #[vI (((y3.2.2.1.getD (Int.toNat (((y3.2.2.1.length : Int) - (if 0 > a1 then 0 else a1)) - 1)) dS_api_Entry).Version).Epoch),vI (((y3.2.2.1.getD (Int.toNat (((y3.2.2.1.length : Int) - (if 0 > a1 then 0 else a1)) - 1)) dS_api_Entry).Version).N)])]) (fun _ => ⟨rfl,I64.w E,rfl,mlen S_api_Entry.row y3.2.2.1,B.eq,B.2,rfl,rfl,map_at S_api_Entry.row dS_api_Entry B.2,rfl,rfl,trivial⟩) ?_
    intro _
    refine grd_elim hm (fun z hm => ?_)
    refine GS.know (p := y3.2.2.1.length ≤ x6) (fun w hw => by first | (have h := (hw.ok 6 _ rfl).1.1; rw [List.length_map] at h; exact h) | simpa using (hw.ok 6 _ rfl).1.1) (fun C => ?_)
    refine GS.open_ ?_
    refine GR.rM (i := 0) 4 (env' := fun _ => [(2,pA ((b 0).x) 0),(4,pA ((b 1).x) 0),(27,.slice (cutOb x5 (Int.toNat ((y3.2.2.1.length : Int) - (if 0 > a1 then 0 else a1))) x6 7) (((y3.2.2.1.drop (Int.toNat ((y3.2.2.1.length : Int) - (if 0 > a1 then 0 else a1)))).take (y3.2.2.1.length - (Int.toNat ((y3.2.2.1.length : Int) - (if 0 > a1 then 0 else a1))))).length) (x6 - (Int.toNat ((y3.2.2.1.length : Int) - (if 0 > a1 then 0 else a1)))))]) (by kernel_rfl) (RunsTo.mk [(1,{ act := .load 4 0 0 [] }),(3,{ act := .cut (Int.toNat ((y3.2.2.1.length : Int) - (if 0 > a1 then 0 else a1))) y3.2.2.1.length x6,sp := some (.slice (cutOb x5 (Int.toNat ((y3.2.2.1.length : Int) - (if 0 > a1 then 0 else a1))) x6 7) (((y3.2.2.1.drop (Int.toNat ((y3.2.2.1.length : Int) - (if 0 > a1 then 0 else a1)))).take (y3.2.2.1.length - (Int.toNat ((y3.2.2.1.length : Int) - (if 0 > a1 then 0 else a1))))).length) (x6 - (Int.toNat ((y3.2.2.1.length : Int) - (if 0 > a1 then 0 else a1))))) })] [2,4,27] [4,5,6,7,8] (fun _ => [(b 0).x = (b 0).x,((y3.2.2.1.length : Int) - (if 0 > a1 then 0 else a1)) = (((Int.toNat ((y3.2.2.1.length : Int) - (if 0 > a1 then 0 else a1))) : Nat) : Int),y3.2.2.1.length = y3.2.2.1.length,x6 = x6,(Int.toNat ((y3.2.2.1.length : Int) - (if 0 > a1 then 0 else a1))) ≤ y3.2.2.1.length,y3.2.2.1.length ≤ x6,x6 ≤ x6,(none : Option Operand) = none → (none : Option Operand) = none,((.slice (if x6 = (Int.toNat ((y3.2.2.1.length : Int) - (if 0 > a1 then 0 else a1))) then x5 else (x5).map (fun a => a.add ((Int.toNat ((y3.2.2.1.length : Int) - (if 0 > a1 then 0 else a1))) * 7))) (y3.2.2.1.length - (Int.toNat ((y3.2.2.1.length : Int) - (if 0 > a1 then 0 else a1)))) (x6 - (Int.toNat ((y3.2.2.1.length : Int) - (if 0 > a1 then 0 else a1))))) : Value) = .slice (cutOb x5 (Int.toNat ((y3.2.2.1.length : Int) - (if 0 > a1 then 0 else a1))) x6 7) (((y3.2.2.1.drop (Int.toNat ((y3.2.2.1.length : Int) - (if 0 > a1 then 0 else a1)))).take (y3.2.2.1.length - (Int.toNat ((y3.2.2.1.length : Int) - (if 0 > a1 then 0 else a1))))).length) (x6 - (Int.toNat ((y3.2.2.1.length : Int) - (if 0 > a1 then 0 else a1))))]) (fun _ => by kernel_rfl) (fun _ => ⟨rfl,z.eq,rfl,rfl,z.2,(Nat.le_trans (Nat.le_refl _) C),(Nat.le_refl _),(by intro h; first | rfl | cases h),slen (by simp only [List.length_take,List.length_drop]; have h1 : y3.2.2.1.length ≤ y3.2.2.1.length := (Nat.le_refl _); have h2 : (Int.toNat ((y3.2.2.1.length : Int) - (if 0 > a1 then 0 else a1))) ≤ y3.2.2.1.length := z.2; omega),trivial⟩)) ?_
    intro _
    refine GR.setMem (mem' := [(4,.cells ((b 0).x) 28 (kc0 y3.1 (((y3.2.2.1.getD (Int.toNat (((y3.2.2.1.length : Int) - (if 0 > a1 then 0 else a1)) - 1)) dS_api_Entry).Version).Epoch) (((y3.2.2.1.getD (Int.toNat (((y3.2.2.1.length : Int) - (if 0 > a1 then 0 else a1)) - 1)) dS_api_Entry).Version).N) x5 y3.2.2.1.length x6 x7 y3.2.2.2.1.length x8 x9 y3.2.2.2.2.length o)),(5,.cells ((b 1).x) 28 (kc6)),(6,r31 x5 y3.2.2.1),(7,o94 x7 x8 y3.2.2.2.1),(8,o91 x9 o y3.2.2.2.2)]) (fun w hw => hw.downAt (k := 6) rfl Cov.osl_rd rfl rfl) ?_
    refine GR.setMem (mem' := [(4,.cells ((b 0).x) 28 (kc0 y3.1 (((y3.2.2.1.getD (Int.toNat (((y3.2.2.1.length : Int) - (if 0 > a1 then 0 else a1)) - 1)) dS_api_Entry).Version).Epoch) (((y3.2.2.1.getD (Int.toNat (((y3.2.2.1.length : Int) - (if 0 > a1 then 0 else a1)) - 1)) dS_api_Entry).Version).N) x5 y3.2.2.1.length x6 x7 y3.2.2.2.1.length x8 x9 y3.2.2.2.2.length o)),(5,.cells ((b 1).x) 28 (kc6)),(6,r31 x5 y3.2.2.1),(7,o94 x7 x8 y3.2.2.2.1),(8,o91 x9 o y3.2.2.2.2),(9,.rd (cutOb x5 (Int.toNat ((y3.2.2.1.length : Int) - (if 0 > a1 then 0 else a1))) x6 7) 7 (((List.map S_api_Entry.row y3.2.2.1).drop (Int.toNat ((y3.2.2.1.length : Int) - (if 0 > a1 then 0 else a1)))).take (y3.2.2.1.length - (Int.toNat ((y3.2.2.1.length : Int) - (if 0 > a1 then 0 else a1))))))]) (fun w hw => Sat.addCov (k0 := 6) hw rfl rfl rfl (rd_cut z.2 (Nat.le_trans (Nat.le_refl _) C)) rfl) ?_
    refine GR.conv (mem' := [(4,.cells ((b 0).x) 28 (kc0 y3.1 (((y3.2.2.1.getD (Int.toNat (((y3.2.2.1.length : Int) - (if 0 > a1 then 0 else a1)) - 1)) dS_api_Entry).Version).Epoch) (((y3.2.2.1.getD (Int.toNat (((y3.2.2.1.length : Int) - (if 0 > a1 then 0 else a1)) - 1)) dS_api_Entry).Version).N) x5 y3.2.2.1.length x6 x7 y3.2.2.2.1.length x8 x9 y3.2.2.2.2.length o)),(5,.cells ((b 1).x) 28 (kc6)),(6,r31 x5 y3.2.2.1),(7,o94 x7 x8 y3.2.2.2.1),(8,o91 x9 o y3.2.2.2.2),(9,r31 (cutOb x5 (Int.toNat ((y3.2.2.1.length : Int) - (if 0 > a1 then 0 else a1))) x6 7) ((y3.2.2.1.drop (Int.toNat ((y3.2.2.1.length : Int) - (if 0 > a1 then 0 else a1)))).take (y3.2.2.1.length - (Int.toNat ((y3.2.2.1.length : Int) - (if 0 > a1 then 0 else a1))))))]) rfl (congrArg (fun rr : List (List Value) => ([(4,.cells ((b 0).x) 28 (kc0 y3.1 (((y3.2.2.1.getD (Int.toNat (((y3.2.2.1.length : Int) - (if 0 > a1 then 0 else a1)) - 1)) dS_api_Entry).Version).Epoch) (((y3.2.2.1.getD (Int.toNat (((y3.2.2.1.length : Int) - (if 0 > a1 then 0 else a1)) - 1)) dS_api_Entry).Version).N) x5 y3.2.2.1.length x6 x7 y3.2.2.2.1.length x8 x9 y3.2.2.2.2.length o)),(5,.cells ((b 1).x) 28 (kc6)),(6,r31 x5 y3.2.2.1),(7,o94 x7 x8 y3.2.2.2.1),(8,o91 x9 o y3.2.2.2.2),(9,.rd (cutOb x5 (Int.toNat ((y3.2.2.1.length : Int) - (if 0 > a1 then 0 else a1))) x6 7) 7 rr)] : List (Nat × Ent))) (show ((List.map S_api_Entry.row y3.2.2.1).drop (Int.toNat ((y3.2.2.1.length : Int) - (if 0 > a1 then 0 else a1)))).take (y3.2.2.1.length - (Int.toNat ((y3.2.2.1.length : Int) - (if 0 > a1 then 0 else a1)))) = List.map S_api_Entry.row ((y3.2.2.1.drop (Int.toNat ((y3.2.2.1.length : Int) - (if 0 > a1 then 0 else a1)))).take (y3.2.2.1.length - (Int.toNat ((y3.2.2.1.length : Int) - (if 0 > a1 then 0 else a1))))) from (by simp only [List.drop_zero,Nat.sub_zero,List.map_take,List.map_drop]))) ?_
    refine grd_elim hm (fun G hm => ?_)
    refine GR.ru (i := 4) 3 (env' := fun e => [(2,pA ((b 0).x) 0),(4,pA ((b 1).x) 0)]) (mem' := fun e => [(4,.cells ((b 0).x) 28 (kc0 y3.1 (((y3.2.2.1.getD (Int.toNat (((y3.2.2.1.length : Int) - (if 0 > a1 then 0 else a1)) - 1)) dS_api_Entry).Version).Epoch) (((y3.2.2.1.getD (Int.toNat (((y3.2.2.1.length : Int) - (if 0 > a1 then 0 else a1)) - 1)) dS_api_Entry).Version).N) ((e 4).ob) (((y3.2.2.1.drop (Int.toNat ((y3.2.2.1.length : Int) - (if 0 > a1 then 0 else a1)))).take (y3.2.2.1.length - (Int.toNat ((y3.2.2.1.length : Int) - (if 0 > a1 then 0 else a1))))).length) ((e 4).cap) x7 y3.2.2.2.1.length x8 x9 y3.2.2.2.2.length o)),(5,.cells ((b 1).x) 28 (kc6)),(7,o94 x7 x8 y3.2.2.2.1),(8,o91 x9 o y3.2.2.2.2),(10,.osl ((e 4).ob) ((e 4).cap) 31 7 (List.map S_api_Entry.row ((y3.2.2.1.drop (Int.toNat ((y3.2.2.1.length : Int) - (if 0 > a1 then 0 else a1)))).take (y3.2.2.1.length - (Int.toNat ((y3.2.2.1.length : Int) - (if 0 > a1 then 0 else a1)))))))]) (by kernel_rfl) (RunsTo.mk [(4,{ act := .app (some 9),key := some 10,spf := some (fun f => .slice (f.ob) (((y3.2.2.1.drop (Int.toNat ((y3.2.2.1.length : Int) - (if 0 > a1 then 0 else a1)))).take (y3.2.2.1.length - (Int.toNat ((y3.2.2.1.length : Int) - (if 0 > a1 then 0 else a1))))).length) (f.cap)) }),(6,{ act := .store 0 0 [],key := some 4 })] [2,4] [4,5,7,8,10] (fun e => [(cutOb x5 (Int.toNat ((y3.2.2.1.length : Int) - (if 0 > a1 then 0 else a1))) x6 7) = (cutOb x5 (Int.toNat ((y3.2.2.1.length : Int) - (if 0 > a1 then 0 else a1))) x6 7),((y3.2.2.1.drop (Int.toNat ((y3.2.2.1.length : Int) - (if 0 > a1 then 0 else a1)))).take (y3.2.2.1.length - (Int.toNat ((y3.2.2.1.length : Int) - (if 0 > a1 then 0 else a1))))).length = (List.map S_api_Entry.row ((y3.2.2.1.drop (Int.toNat ((y3.2.2.1.length : Int) - (if 0 > a1 then 0 else a1)))).take (y3.2.2.1.length - (Int.toNat ((y3.2.2.1.length : Int) - (if 0 > a1 then 0 else a1)))))).length,0 = 0,0 = 0,(List.map S_api_Entry.row ((y3.2.2.1.drop (Int.toNat ((y3.2.2.1.length : Int) - (if 0 > a1 then 0 else a1)))).take (y3.2.2.1.length - (Int.toNat ((y3.2.2.1.length : Int) - (if 0 > a1 then 0 else a1)))))).length * (64 + 1) ≤ 70368744177664,((.slice ((e 4).ob) (0 + (List.map S_api_Entry.row ((y3.2.2.1.drop (Int.toNat ((y3.2.2.1.length : Int) - (if 0 > a1 then 0 else a1)))).take (y3.2.2.1.length - (Int.toNat ((y3.2.2.1.length : Int) - (if 0 > a1 then 0 else a1)))))).length) ((e 4).cap)) : Value) = .slice ((e 4).ob) (((y3.2.2.1.drop (Int.toNat ((y3.2.2.1.length : Int) - (if 0 > a1 then 0 else a1)))).take (y3.2.2.1.length - (Int.toNat ((y3.2.2.1.length : Int) - (if 0 > a1 then 0 else a1))))).length) ((e 4).cap),(b 0).x = (b 0).x,oC (.slice ((e 4).ob) (((y3.2.2.1.drop (Int.toNat ((y3.2.2.1.length : Int) - (if 0 > a1 then 0 else a1)))).take (y3.2.2.1.length - (Int.toNat ((y3.2.2.1.length : Int) - (if 0 > a1 then 0 else a1))))).length) ((e 4).cap))]) (fun e => by kernel_rfl) (fun e => ⟨rfl,mlen S_api_Entry.row ((y3.2.2.1.drop (Int.toNat ((y3.2.2.1.length : Int) - (if 0 > a1 then 0 else a1)))).take (y3.2.2.1.length - (Int.toNat ((y3.2.2.1.length : Int) - (if 0 > a1 then 0 else a1))))),rfl,rfl,appb0 G (mlen S_api_Entry.row ((y3.2.2.1.drop (Int.toNat ((y3.2.2.1.length : Int) - (if 0 > a1 then 0 else a1)))).take (y3.2.2.1.length - (Int.toNat ((y3.2.2.1.length : Int) - (if 0 > a1 then 0 else a1)))))).symm,slen (by rw [(mlen S_api_Entry.row ((y3.2.2.1.drop (Int.toNat ((y3.2.2.1.length : Int) - (if 0 > a1 then 0 else a1)))).take (y3.2.2.1.length - (Int.toNat ((y3.2.2.1.length : Int) - (if 0 > a1 then 0 else a1)))))).symm,Nat.zero_add]),rfl,rfl,trivial⟩)) ?_
    intro e
    refine GR.conv (mem' := [(4,.cells ((b 0).x) 28 (kc0 y3.1 (((y3.2.2.1.getD (Int.toNat (((y3.2.2.1.length : Int) - (if 0 > a1 then 0 else a1)) - 1)) dS_api_Entry).Version).Epoch) (((y3.2.2.1.getD (Int.toNat (((y3.2.2.1.length : Int) - (if 0 > a1 then 0 else a1)) - 1)) dS_api_Entry).Version).N) ((e 4).ob) (((y3.2.2.1.drop (Int.toNat ((y3.2.2.1.length : Int) - (if 0 > a1 then 0 else a1)))).take (y3.2.2.1.length - (Int.toNat ((y3.2.2.1.length : Int) - (if 0 > a1 then 0 else a1))))).length) ((e 4).cap) x7 y3.2.2.2.1.length x8 x9 y3.2.2.2.2.length o)),(5,.cells ((b 1).x) 28 (kc6)),(7,o94 x7 x8 y3.2.2.2.1),(8,o91 x9 o y3.2.2.2.2),(10,o31 ((e 4).ob) ((e 4).cap) ((y3.2.2.1.drop (Int.toNat ((y3.2.2.1.length : Int) - (if 0 > a1 then 0 else a1)))).take (y3.2.2.1.length - (Int.toNat ((y3.2.2.1.length : Int) - (if 0 > a1 then 0 else a1))))))]) rfl (congrArg (fun rr : List (List Value) => ([(4,.cells ((b 0).x) 28 (kc0 y3.1 (((y3.2.2.1.getD (Int.toNat (((y3.2.2.1.length : Int) - (if 0 > a1 then 0 else a1)) - 1)) dS_api_Entry).Version).Epoch) (((y3.2.2.1.getD (Int.toNat (((y3.2.2.1.length : Int) - (if 0 > a1 then 0 else a1)) - 1)) dS_api_Entry).Version).N) ((e 4).ob) (((y3.2.2.1.drop (Int.toNat ((y3.2.2.1.length : Int) - (if 0 > a1 then 0 else a1)))).take (y3.2.2.1.length - (Int.toNat ((y3.2.2.1.length : Int) - (if 0 > a1 then 0 else a1))))).length) ((e 4).cap) x7 y3.2.2.2.1.length x8 x9 y3.2.2.2.2.length o)),(5,.cells ((b 1).x) 28 (kc6)),(7,o94 x7 x8 y3.2.2.2.1),(8,o91 x9 o y3.2.2.2.2),(10,.osl ((e 4).ob) ((e 4).cap) 31 7 rr)] : List (Nat × Ent))) (show List.map S_api_Entry.row ((y3.2.2.1.drop (Int.toNat ((y3.2.2.1.length : Int) - (if 0 > a1 then 0 else a1)))).take (y3.2.2.1.length - (Int.toNat ((y3.2.2.1.length : Int) - (if 0 > a1 then 0 else a1))))) = List.map S_api_Entry.row ((y3.2.2.1.drop (Int.toNat ((y3.2.2.1.length : Int) - (if 0 > a1 then 0 else a1)))).take (y3.2.2.1.length - (Int.toNat ((y3.2.2.1.length : Int) - (if 0 > a1 then 0 else a1))))) from rfl)) ?_
    refine GR.dn (by kernel_rfl) ?_
    refine GS.seq ?_
    refine GS.tg (fun _ => [(4,pA ((b 1).x) 0)]) (fun _ => [(5,.cells ((b 1).x) 28 (kc0 y3.1 (((y3.2.2.1.getD (Int.toNat (((y3.2.2.1.length : Int) - (if 0 > a1 then 0 else a1)) - 1)) dS_api_Entry).Version).Epoch) (((y3.2.2.1.getD (Int.toNat (((y3.2.2.1.length : Int) - (if 0 > a1 then 0 else a1)) - 1)) dS_api_Entry).Version).N) ((e 4).ob) (((y3.2.2.1.drop (Int.toNat ((y3.2.2.1.length : Int) - (if 0 > a1 then 0 else a1)))).take (y3.2.2.1.length - (Int.toNat ((y3.2.2.1.length : Int) - (if 0 > a1 then 0 else a1))))).length) ((e 4).cap) x7 y3.2.2.2.1.length x8 x9 y3.2.2.2.2.length o)),(7,o94 x7 x8 y3.2.2.2.1),(8,o91 x9 o y3.2.2.2.2),(10,o31 ((e 4).ob) ((e 4).cap) ((y3.2.2.1.drop (Int.toNat ((y3.2.2.1.length : Int) - (if 0 > a1 then 0 else a1)))).take (y3.2.2.1.length - (Int.toNat ((y3.2.2.1.length : Int) - (if 0 > a1 then 0 else a1))))))]) [(0,{ act := .load 4 0 0 [] }),(1,{ act := .store 0 0 [],key := some 5 })] (fun _ => [(b 0).x = (b 0).x,(b 1).x = (b 1).x,oC (.agg ((kc0 y3.1 (((y3.2.2.1.getD (Int.toNat (((y3.2.2.1.length : Int) - (if 0 > a1 then 0 else a1)) - 1)) dS_api_Entry).Version).Epoch) (((y3.2.2.1.getD (Int.toNat (((y3.2.2.1.length : Int) - (if 0 > a1 then 0 else a1)) - 1)) dS_api_Entry).Version).N) ((e 4).ob) (((y3.2.2.1.drop (Int.toNat ((y3.2.2.1.length : Int) - (if 0 > a1 then 0 else a1)))).take (y3.2.2.1.length - (Int.toNat ((y3.2.2.1.length : Int) - (if 0 > a1 then 0 else a1))))).length) ((e 4).cap) x7 y3.2.2.2.1.length x8 x9 y3.2.2.2.2.length o)).toArray)]) (fun _ => ⟨rfl,rfl,rfl,trivial⟩) ?_
    intro _
    have hy := Option.some.inj hm
    subst hy
    refine GS.ret (fn := Tryz.f34) [5] [.agg ((kc0 y3.1 (((y3.2.2.1.getD (Int.toNat (((y3.2.2.1.length : Int) - (if 0 > a1 then 0 else a1)) - 1)) dS_api_Entry).Version).Epoch) (((y3.2.2.1.getD (Int.toNat (((y3.2.2.1.length : Int) - (if 0 > a1 then 0 else a1)) - 1)) dS_api_Entry).Version).N) ((e 4).ob) (((y3.2.2.1.drop (Int.toNat ((y3.2.2.1.length : Int) - (if 0 > a1 then 0 else a1)))).take (y3.2.2.1.length - (Int.toNat ((y3.2.2.1.length : Int) - (if 0 > a1 then 0 else a1))))).length) ((e 4).cap) x7 y3.2.2.2.1.length x8 x9 y3.2.2.2.2.length o)).toArray] [(b 1).x = (b 1).x] rfl Tryz.func34 (by kernel_rfl) ⟨rfl,trivial⟩ (fun w' hs => ?_)
    exact ⟨⟨(e 4).ob,(e 4).cap,x7,x8,x9,o⟩,rfl,hs.turnedG (ks := [10,7,8]) rfl rfl⟩
  · replace hm := br_f A hm
    refine GS.skip ?_
    refine GS.seq ?_
    refine GS.tg (fun _ => [(4,pA ((b 1).x) 0)]) (fun _ => [(5,.cells ((b 1).x) 28 (kc0 y3.1 y3.2.1.Epoch y3.2.1.N x5 y3.2.2.1.length x6 x7 y3.2.2.2.1.length x8 x9 y3.2.2.2.2.length o)),(6,o31 x5 x6 y3.2.2.1),(7,o94 x7 x8 y3.2.2.2.1),(8,o91 x9 o y3.2.2.2.2)]) [(0,{ act := .load 4 0 0 [] }),(1,{ act := .store 0 0 [],key := some 5 })] (fun _ => [(b 0).x = (b 0).x,(b 1).x = (b 1).x,oC (.agg ((kc0 y3.1 y3.2.1.Epoch y3.2.1.N x5 y3.2.2.1.length x6 x7 y3.2.2.2.1.length x8 x9 y3.2.2.2.2.length o)).toArray)]) (fun _ => ⟨rfl,rfl,rfl,trivial⟩) ?_
    intro _
    have hy := Option.some.inj hm
    subst hy
    refine GS.ret (fn := Tryz.f34) [5] [.agg ((kc0 y3.1 y3.2.1.Epoch y3.2.1.N x5 y3.2.2.1.length x6 x7 y3.2.2.2.1.length x8 x9 y3.2.2.2.2.length o)).toArray] [(b 1).x = (b 1).x] rfl Tryz.func34 (by kernel_rfl) ⟨rfl,trivial⟩ (fun w' hs => ?_)
    exact ⟨⟨x5,x6,x7,x8,x9,o⟩,rfl,hs.turnedG (ks := [6,7,8]) rfl rfl⟩

theorem w_primary_Take (F : Nat) (o : Int) (j : S_api_Version) (e : Option Addr) (n : Nat) (f : List S_api_Entry) (a : Option Addr) (l : Nat) (c : List S_api_Last) (b : Option Addr) (m : Nat) (d : List S_api_Item) (a1 : S_api_Entry) (a2 : Int) {y : Int × S_api_Version × List S_api_Entry × List S_api_Last × List S_api_Item × Int} (hm : m_primary_Take F o j f c d a1 a2 = some y) : CallG Tryz.prog 8 #[.agg ((kc0 o j.Epoch j.N e f.length n a c.length l b d.length m)).toArray,.agg ((kc1 a1.Version.Epoch a1.Version.N a1.Remove a1.Errno a1.Name a1.Client a1.Number)).toArray,.int .u32 a2] (X := Option Addr × Nat × Option Addr × Nat × Option Addr × Nat) (fun ⟨x0,x1,x2,x3,x4,x5⟩ => .tuple #[.agg ((kc0 y.1 y.2.1.Epoch y.2.1.N x0 y.2.2.1.length x1 x2 y.2.2.2.1.length x3 x4 y.2.2.2.2.1.length x5)).toArray,vI y.2.2.2.2.2]) [] [r31 e f,r94 a c,r91 b d] (fun ⟨x0,x1,x2,x3,x4,x5⟩ => [o31 x0 x1 y.2.2.1,o94 x2 x3 y.2.2.2.1,o91 x4 x5 y.2.2.2.2.1]) := by
  intro w hg
  rw [m_primary_Take] at hm
  refine GS.start (S := mayT [] [r31 e f,r94 a c,r91 b d]) (mem := [(1,r31 e f),(2,r94 a c),(3,r91 b d)]) Tryz.func8 rfl Tryz.ntmps8 (Nat.le_of_ble_eq_true rfl) (hg.start rfl) ?_
  refine GS.conv (env' := [(0,.agg ((kc0 o j.Epoch j.N e f.length n a c.length l b d.length m)).toArray),(1,.agg ((kc1 a1.Version.Epoch a1.Version.N a1.Remove a1.Errno a1.Name a1.Client a1.Number)).toArray),(2,.int .u32 a2)]) rfl rfl ?_
  refine GS.seq ?_
  refine GS.tz (fun k => [(2,.int .u32 a2),(3,pA ((k 0).x) 0),(4,pA ((k 1).x) 0),(6,pA ((k 2).x) 0)]) (fun k => [(1,r31 e f),(2,r94 a c),(3,r91 b d),(4,.cells ((k 0).x) 28 (kc0 o j.Epoch j.N e f.length n a c.length l b d.length m)),(5,.cells ((k 1).x) 31 (kc1 a1.Version.Epoch a1.Version.N a1.Remove a1.Errno a1.Name a1.Client a1.Number)),(6,.cells ((k 2).x) 28 (kc6))]) [(0,{ act := .new .var,key := some 4 }),(1,{ act := .new .var,key := some 5 }),(2,{ act := .new .var,key := some 6 })] ?_
  intro k
  refine GS.seq ?_
  refine bnd_elim hm (fun y3 e4 hm => ?_)
  refine GS.tg (fun z => [(2,.int .u32 a2),(3,pA ((k 0).x) 0),(4,pA ((k 1).x) 0),(6,pA ((k 2).x) 0),(8,pA ((z 2).x) 0)]) (fun z => [(1,r31 e f),(2,r94 a c),(3,r91 b d),(4,.cells ((k 0).x) 28 (kc0 o j.Epoch j.N e f.length n a c.length l b d.length m)),(5,.cells ((k 1).x) 31 (kc1 a1.Version.Epoch a1.Version.N a1.Remove a1.Errno a1.Name a1.Client a1.Number)),(6,.cells ((k 2).x) 28 (kc6)),(7,.cells ((z 2).x) 23 [vI y3.Epoch,vI y3.N])]) [(0,{ act := .load 4 0 0 [] }),(1,{ act := .call [1,2,3] (.agg #[vI y3.Epoch,vI y3.N]) }),(2,{ act := .new .var,key := some 7 }),(3,{ act := .store 0 0 [],key := some 7 })] (fun z => [(k 0).x = (k 0).x,CallOK Tryz.prog 30 #[.agg ((kc0 o j.Epoch j.N e f.length n a c.length l b d.length m)).toArray] (.agg #[vI y3.Epoch,vI y3.N]) [some (r31 e f),some (r94 a c),some (r91 b d)],(z 2).x = (z 2).x,oC (.agg #[vI y3.Epoch,vI y3.N])]) (fun z => ⟨rfl,(by have h1 := w_pglog_Head_2 F o j e n f a l c b m d e4; exact h1.ok ⟨(.inl ⟨r31 e f,.head _,Cov.refl _⟩),(.inl ⟨r94 a c,(.tail _ (.head _)),Cov.refl _⟩),(.inl ⟨r91 b d,(.tail _ (.tail _ (.head _))),Cov.refl _⟩),trivial⟩),rfl,rfl,trivial⟩) ?_
  intro z
  refine GS.seq ?_
  refine GS.seq ?_
  refine bnd_elim hm (fun y6 e7 hm => ?_)
  refine GS.tgM (fun _ => [(2,.int .u32 a2),(3,pA ((k 0).x) 0),(4,pA ((k 1).x) 0),(6,pA ((k 2).x) 0),(8,pA ((z 2).x) 0),(17,.bool (decide (y6 ≤ 0)))]) [(1,{ act := .load 5 0 0 [] }),(2,{ act := .load 7 0 0 [] }),(3,{ act := .call [] (vI y6) })] (fun _ => [(k 1).x = (k 1).x,(z 2).x = (z 2).x,CallOK Tryz.prog 31 #[.agg #[vI a1.Version.Epoch,vI a1.Version.N],.agg #[vI y3.Epoch,vI y3.N]] (vI y6) []]) (fun _ => ⟨rfl,rfl,(by have h1 := w_pglog_Cmp_2 F a1.Version y3 e7; exact h1.ok trivial),trivial⟩) ?_
  intro _
  refine GS.cond (t := decide (y6 ≤ 0)) rfl rfl (fun h8 => ?_) (fun h8 => ?_)
  · replace hm := br_t h8 hm
    refine GS.seq ?_
    refine bnd_elim hm (fun q ak hm => ?_)
    refine GS.open_ ?_
    refine GR.ru (i := 0) 1 (env' := fun _ => [(6,pA ((k 2).x) 0),(18,.agg ((kc0 o j.Epoch j.N e f.length n a c.length l b d.length m)).toArray)]) (mem' := fun _ => [(1,r31 e f),(2,r94 a c),(3,r91 b d),(6,.cells ((k 2).x) 28 (kc6))]) (by kernel_rfl) (RunsTo.mk [(0,{ act := .load 4 0 0 [] })] [6,18] [1,2,3,6] (fun _ => [(k 0).x = (k 0).x]) (fun _ => by kernel_rfl) (fun _ => ⟨rfl,trivial⟩)) ?_
    intro _
    refine GR.callG (X := Option Addr × Nat × Option Addr × Nat × Option Addr × Nat) (i := 1) (g := 32) (ro := [r31 e f,r94 a c,r91 b d]) (mem' := fun ⟨H,I,J,K,L,M⟩ => [(1,r31 e f),(2,r94 a c),(3,r91 b d),(6,.cells ((k 2).x) 28 (kc6)),(8,o31 H I q.2.2.1),(9,o94 J K q.2.2.2.1),(10,o91 L M q.2.2.2.2)]) (env' := fun ⟨H,I,J,K,L,M⟩ => [(6,pA ((k 2).x) 0),(19,.agg ((kc0 q.1 q.2.1.Epoch q.2.1.N H q.2.2.1.length I J q.2.2.2.1.length K L q.2.2.2.2.length M)).toArray)]) [] [8,9,10] [6,19] [1,2,3,6,8,9,10] false (by kernel_rfl) (by kernel_rfl) (by kernel_rfl) (by kernel_rfl) (by kernel_rfl) (fun _ => rfl) (fun _ _ => rfl) ⟨(.inl ⟨1,_,rfl,rfl,Cov.refl _,fun h => by cases h⟩),(.inl ⟨2,_,rfl,rfl,Cov.refl _,fun h => by cases h⟩),(.inl ⟨3,_,rfl,rfl,Cov.refl _,fun h => by cases h⟩),trivial⟩ (by rintro ⟨H,I,J,K,L,M⟩; kernel_rfl) (by rintro ⟨H,I,J,K,L,M⟩; kernel_rfl) (w_pglog_Copy_4 F o j e n f a l c b m d ak) ?_
    rintro ⟨H,I,J,K,L,M⟩
    refine GR.ru (i := 2) 2 (env' := fun _ => [(6,pA ((k 2).x) 0),(7,vI 0)]) (mem' := fun _ => [(6,.cells ((k 2).x) 28 (kc0 q.1 q.2.1.Epoch q.2.1.N H q.2.2.1.length I J q.2.2.2.1.length K L q.2.2.2.2.length M)),(8,o31 H I q.2.2.1),(9,o94 J K q.2.2.2.1),(10,o91 L M q.2.2.2.2)]) (by kernel_rfl) (RunsTo.mk [(2,{ act := .store 0 0 [],key := some 6 })] [6,7] [6,8,9,10] (fun _ => [(k 2).x = (k 2).x,oC (.agg ((kc0 q.1 q.2.1.Epoch q.2.1.N H q.2.2.1.length I J q.2.2.2.1.length K L q.2.2.2.2.length M)).toArray)]) (fun _ => by kernel_rfl) (fun _ => ⟨rfl,rfl,trivial⟩)) ?_
    intro _
    refine GR.dn (by kernel_rfl) ?_
    have hy := Option.some.inj hm
    subst hy
    refine GS.ret (fn := Tryz.f8) [6,0] [.agg ((kc0 q.1 q.2.1.Epoch q.2.1.N H q.2.2.1.length I J q.2.2.2.1.length K L q.2.2.2.2.length M)).toArray,vI 0] [(k 2).x = (k 2).x] rfl Tryz.func8 (by kernel_rfl) ⟨rfl,trivial⟩ (fun w' hs => ?_)
    exact ⟨⟨H,I,J,K,L,M⟩,rfl,hs.turnedG (ks := [8,9,10]) rfl rfl⟩
  · replace hm := br_f h8 hm
    refine GS.skip ?_
    refine GS.seq ?_
    refine GS.seq ?_
    refine GS.tg (fun _ => [(2,.int .u32 a2),(3,pA ((k 0).x) 0),(4,pA ((k 1).x) 0),(6,pA ((k 2).x) 0),(26,.bool ((IntKind.i64.wrap (a1.Version.N - 1)) != y3.N))]) (fun _ => [(1,r31 e f),(2,r94 a c),(3,r91 b d),(4,.cells ((k 0).x) 28 (kc0 o j.Epoch j.N e f.length n a c.length l b d.length m)),(5,.cells ((k 1).x) 31 (kc1 a1.Version.Epoch a1.Version.N a1.Remove a1.Errno a1.Name a1.Client a1.Number)),(6,.cells ((k 2).x) 28 (kc6))]) [(2,{ act := .load 5 0 0 [] }),(5,{ act := .load 7 0 0 [] })] (fun _ => [(k 1).x = (k 1).x,(z 2).x = (z 2).x]) (fun _ => ⟨rfl,rfl,trivial⟩) ?_
    intro _
    refine GS.cond (t := (IntKind.i64.wrap (a1.Version.N - 1)) != y3.N) rfl rfl (fun ai => ?_) (fun ai => ?_)
    · replace hm := br_t ai hm
      refine GS.seq ?_
      refine bnd_elim hm (fun r al hm => ?_)
      refine GS.open_ ?_
      refine GR.ru (i := 0) 1 (env' := fun _ => [(6,pA ((k 2).x) 0),(27,.agg ((kc0 o j.Epoch j.N e f.length n a c.length l b d.length m)).toArray)]) (mem' := fun _ => [(1,r31 e f),(2,r94 a c),(3,r91 b d),(6,.cells ((k 2).x) 28 (kc6))]) (by kernel_rfl) (RunsTo.mk [(0,{ act := .load 4 0 0 [] })] [6,27] [1,2,3,6] (fun _ => [(k 0).x = (k 0).x]) (fun _ => by kernel_rfl) (fun _ => ⟨rfl,trivial⟩)) ?_
      intro _
      refine GR.callG (X := Option Addr × Nat × Option Addr × Nat × Option Addr × Nat) (i := 1) (g := 32) (ro := [r31 e f,r94 a c,r91 b d]) (mem' := fun ⟨O,P,Q,R,T,U⟩ => [(1,r31 e f),(2,r94 a c),(3,r91 b d),(6,.cells ((k 2).x) 28 (kc6)),(8,o31 O P r.2.2.1),(9,o94 Q R r.2.2.2.1),(10,o91 T U r.2.2.2.2)]) (env' := fun ⟨O,P,Q,R,T,U⟩ => [(6,pA ((k 2).x) 0),(28,.agg ((kc0 r.1 r.2.1.Epoch r.2.1.N O r.2.2.1.length P Q r.2.2.2.1.length R T r.2.2.2.2.length U)).toArray)]) [] [8,9,10] [6,28] [1,2,3,6,8,9,10] false (by kernel_rfl) (by kernel_rfl) (by kernel_rfl) (by kernel_rfl) (by kernel_rfl) (fun _ => rfl) (fun _ _ => rfl) ⟨(.inl ⟨1,_,rfl,rfl,Cov.refl _,fun h => by cases h⟩),(.inl ⟨2,_,rfl,rfl,Cov.refl _,fun h => by cases h⟩),(.inl ⟨3,_,rfl,rfl,Cov.refl _,fun h => by cases h⟩),trivial⟩ (by rintro ⟨O,P,Q,R,T,U⟩; kernel_rfl) (by rintro ⟨O,P,Q,R,T,U⟩; kernel_rfl) (w_pglog_Copy_4 F o j e n f a l c b m d al) ?_
      rintro ⟨O,P,Q,R,T,U⟩
      refine GR.ru (i := 2) 2 (env' := fun _ => [(6,pA ((k 2).x) 0),(7,vI (-1))]) (mem' := fun _ => [(6,.cells ((k 2).x) 28 (kc0 r.1 r.2.1.Epoch r.2.1.N O r.2.2.1.length P Q r.2.2.2.1.length R T r.2.2.2.2.length U)),(8,o31 O P r.2.2.1),(9,o94 Q R r.2.2.2.1),(10,o91 T U r.2.2.2.2)]) (by kernel_rfl) (RunsTo.mk [(2,{ act := .store 0 0 [],key := some 6 })] [6,7] [6,8,9,10] (fun _ => [(k 2).x = (k 2).x,oC (.agg ((kc0 r.1 r.2.1.Epoch r.2.1.N O r.2.2.1.length P Q r.2.2.2.1.length R T r.2.2.2.2.length U)).toArray)]) (fun _ => by kernel_rfl) (fun _ => ⟨rfl,rfl,trivial⟩)) ?_
      intro _
      refine GR.dn (by kernel_rfl) ?_
      have hy := Option.some.inj hm
      subst hy
      refine GS.ret (fn := Tryz.f8) [6,0] [.agg ((kc0 r.1 r.2.1.Epoch r.2.1.N O r.2.2.1.length P Q r.2.2.2.1.length R T r.2.2.2.2.length U)).toArray,vI (-1)] [(k 2).x = (k 2).x] rfl Tryz.func8 (by kernel_rfl) ⟨rfl,trivial⟩ (fun w' hs => ?_)
      exact ⟨⟨O,P,Q,R,T,U⟩,rfl,hs.turnedG (ks := [8,9,10]) rfl rfl⟩
    · replace hm := br_f ai hm
      refine GS.skip ?_
      refine GS.seq ?_
      refine bnd_elim hm (fun p am hm => ?_)
      refine GS.open_ ?_
      refine GR.ru (i := 0) 3 (env' := fun _ => [(3,pA ((k 0).x) 0),(6,pA ((k 2).x) 0),(30,.agg ((kc0 o j.Epoch j.N e f.length n a c.length l b d.length m)).toArray),(31,.agg ((kc1 a1.Version.Epoch a1.Version.N a1.Remove a1.Errno a1.Name a1.Client a1.Number)).toArray),(32,.int .u32 a2)]) (mem' := fun _ => [(1,r31 e f),(2,r94 a c),(3,r91 b d),(4,.cells ((k 0).x) 28 (kc0 o j.Epoch j.N e f.length n a c.length l b d.length m)),(6,.cells ((k 2).x) 28 (kc6))]) (by kernel_rfl) (RunsTo.mk [(0,{ act := .load 4 0 0 [] }),(1,{ act := .load 5 0 0 [] })] [3,6,30,31,32] [1,2,3,4,6] (fun _ => [(k 0).x = (k 0).x,(k 1).x = (k 1).x]) (fun _ => by kernel_rfl) (fun _ => ⟨rfl,rfl,trivial⟩)) ?_
      intro _
      refine GR.callG (X := Option Addr × Nat × Option Addr × Nat × Option Addr × Nat) (i := 3) (g := 33) (ro := [r31 e f,r94 a c,r91 b d]) (mem' := fun ⟨A,D,B,E,C,G⟩ => [(1,r31 e f),(2,r94 a c),(3,r91 b d),(4,.cells ((k 0).x) 28 (kc0 o j.Epoch j.N e f.length n a c.length l b d.length m)),(6,.cells ((k 2).x) 28 (kc6)),(8,o31 A D p.2.2.1),(9,o94 B E p.2.2.2.1),(10,o91 C G p.2.2.2.2.1)]) (env' := fun ⟨A,D,B,E,C,G⟩ => [(3,pA ((k 0).x) 0),(6,pA ((k 2).x) 0),(33,.tuple #[.agg ((kc0 p.1 p.2.1.Epoch p.2.1.N A p.2.2.1.length D B p.2.2.2.1.length E C p.2.2.2.2.1.length G)).toArray,vI p.2.2.2.2.2])]) [] [8,9,10] [3,6,33] [1,2,3,4,6,8,9,10] false (by kernel_rfl) (by kernel_rfl) (by kernel_rfl) (by kernel_rfl) (by kernel_rfl) (fun _ => rfl) (fun _ _ => rfl) ⟨(.inl ⟨1,_,rfl,rfl,Cov.refl _,fun h => by cases h⟩),(.inl ⟨2,_,rfl,rfl,Cov.refl _,fun h => by cases h⟩),(.inl ⟨3,_,rfl,rfl,Cov.refl _,fun h => by cases h⟩),trivial⟩ (by rintro ⟨A,D,B,E,C,G⟩; kernel_rfl) (by rintro ⟨A,D,B,E,C,G⟩; kernel_rfl) (w_pglog_Append_2 F o j e n f a l c b m d a1 a2 am) ?_
      rintro ⟨A,D,B,E,C,G⟩
      refine GR.ru (i := 4) 6 (env' := fun v => [(3,pA ((k 0).x) 0),(6,pA ((k 2).x) 0),(9,pA ((v 7).x) 0),(10,vI p.2.2.2.2.2)]) (mem' := fun v => [(1,r31 e f),(2,r94 a c),(3,r91 b d),(4,.cells ((k 0).x) 28 (kc0 o j.Epoch j.N e f.length n a c.length l b d.length m)),(6,.cells ((k 2).x) 28 (kc6)),(8,o31 A D p.2.2.1),(9,o94 B E p.2.2.2.1),(10,o91 C G p.2.2.2.2.1),(11,.cells ((v 7).x) 28 (kc0 p.1 p.2.1.Epoch p.2.1.N A p.2.2.1.length D B p.2.2.2.1.length E C p.2.2.2.2.1.length G))]) (by kernel_rfl) (RunsTo.mk [(7,{ act := .new .var,key := some 11 }),(8,{ act := .store 0 0 [],key := some 11 })] [3,6,9,10] [1,2,3,4,6,8,9,10,11] (fun v => [(v 7).x = (v 7).x,oC (.agg ((kc0 p.1 p.2.1.Epoch p.2.1.N A p.2.2.1.length D B p.2.2.2.1.length E C p.2.2.2.2.1.length G)).toArray)]) (fun v => by kernel_rfl) (fun v => ⟨rfl,rfl,trivial⟩)) ?_
      intro v
      refine GR.dn (by kernel_rfl) ?_
      refine GS.seq ?_
      refine GS.seq ?_
      refine GS.tzM (fun _ => [(3,pA ((k 0).x) 0),(6,pA ((k 2).x) 0),(9,pA ((v 7).x) 0),(37,.bool (p.2.2.2.2.2 != 0))]) [] ?_
      intro _
      refine GS.cond (t := p.2.2.2.2.2 != 0) rfl rfl (fun aj => ?_) (fun aj => ?_)
      · replace hm := br_t aj hm
        refine GS.seq ?_
        refine bnd_elim hm (fun s an hm => ?_)
        refine GS.open_ ?_
        refine GR.ru (i := 0) 1 (env' := fun _ => [(6,pA ((k 2).x) 0),(38,.agg ((kc0 o j.Epoch j.N e f.length n a c.length l b d.length m)).toArray)]) (mem' := fun _ => [(1,r31 e f),(2,r94 a c),(3,r91 b d),(6,.cells ((k 2).x) 28 (kc6))]) (by kernel_rfl) (RunsTo.mk [(0,{ act := .load 4 0 0 [] })] [6,38] [1,2,3,6] (fun _ => [(k 0).x = (k 0).x]) (fun _ => by kernel_rfl) (fun _ => ⟨rfl,trivial⟩)) ?_
        intro _
        refine GR.callG (X := Option Addr × Nat × Option Addr × Nat × Option Addr × Nat) (i := 1) (g := 32) (ro := [r31 e f,r94 a c,r91 b d]) (mem' := fun ⟨V,W,Y,Z,aa,ab⟩ => [(1,r31 e f),(2,r94 a c),(3,r91 b d),(6,.cells ((k 2).x) 28 (kc6)),(12,o31 V W s.2.2.1),(13,o94 Y Z s.2.2.2.1),(14,o91 aa ab s.2.2.2.2)]) (env' := fun ⟨V,W,Y,Z,aa,ab⟩ => [(6,pA ((k 2).x) 0),(39,.agg ((kc0 s.1 s.2.1.Epoch s.2.1.N V s.2.2.1.length W Y s.2.2.2.1.length Z aa s.2.2.2.2.length ab)).toArray)]) [] [12,13,14] [6,39] [1,2,3,6,12,13,14] false (by kernel_rfl) (by kernel_rfl) (by kernel_rfl) (by kernel_rfl) (by kernel_rfl) (fun _ => rfl) (fun _ _ => rfl) ⟨(.inl ⟨1,_,rfl,rfl,Cov.refl _,fun h => by cases h⟩),(.inl ⟨2,_,rfl,rfl,Cov.refl _,fun h => by cases h⟩),(.inl ⟨3,_,rfl,rfl,Cov.refl _,fun h => by cases h⟩),trivial⟩ (by rintro ⟨V,W,Y,Z,aa,ab⟩; kernel_rfl) (by rintro ⟨V,W,Y,Z,aa,ab⟩; kernel_rfl) (w_pglog_Copy_4 F o j e n f a l c b m d an) ?_
        rintro ⟨V,W,Y,Z,aa,ab⟩
        refine GR.ru (i := 2) 2 (env' := fun _ => [(6,pA ((k 2).x) 0),(7,vI (-1))]) (mem' := fun _ => [(6,.cells ((k 2).x) 28 (kc0 s.1 s.2.1.Epoch s.2.1.N V s.2.2.1.length W Y s.2.2.2.1.length Z aa s.2.2.2.2.length ab)),(12,o31 V W s.2.2.1),(13,o94 Y Z s.2.2.2.1),(14,o91 aa ab s.2.2.2.2)]) (by kernel_rfl) (RunsTo.mk [(2,{ act := .store 0 0 [],key := some 6 })] [6,7] [6,12,13,14] (fun _ => [(k 2).x = (k 2).x,oC (.agg ((kc0 s.1 s.2.1.Epoch s.2.1.N V s.2.2.1.length W Y s.2.2.2.1.length Z aa s.2.2.2.2.length ab)).toArray)]) (fun _ => by kernel_rfl) (fun _ => ⟨rfl,rfl,trivial⟩)) ?_
        intro _
        refine GR.dn (by kernel_rfl) ?_
        have hy := Option.some.inj hm
        subst hy
        refine GS.ret (fn := Tryz.f8) [6,0] [.agg ((kc0 s.1 s.2.1.Epoch s.2.1.N V s.2.2.1.length W Y s.2.2.2.1.length Z aa s.2.2.2.2.length ab)).toArray,vI (-1)] [(k 2).x = (k 2).x] rfl Tryz.func8 (by kernel_rfl) ⟨rfl,trivial⟩ (fun w' hs => ?_)
        exact ⟨⟨V,W,Y,Z,aa,ab⟩,rfl,hs.turnedG (ks := [12,13,14]) rfl rfl⟩
      · replace hm := br_f aj hm
        refine GS.skip ?_
        refine GS.seq ?_
        refine bnd_elim hm (fun u ao hm => ?_)
        refine GS.open_ ?_
        refine GR.ru (i := 0) 1 (env' := fun _ => [(6,pA ((k 2).x) 0),(40,.agg ((kc0 p.1 p.2.1.Epoch p.2.1.N A p.2.2.1.length D B p.2.2.2.1.length E C p.2.2.2.2.1.length G)).toArray)]) (mem' := fun _ => [(6,.cells ((k 2).x) 28 (kc6)),(8,o31 A D p.2.2.1),(9,o94 B E p.2.2.2.1),(10,o91 C G p.2.2.2.2.1)]) (by kernel_rfl) (RunsTo.mk [(0,{ act := .load 11 0 0 [] })] [6,40] [6,8,9,10] (fun _ => [(v 7).x = (v 7).x]) (fun _ => by kernel_rfl) (fun _ => ⟨rfl,trivial⟩)) ?_
        intro _
        refine GR.callG (X := Option Addr × Nat × Option Addr × Nat × Option Addr × Nat) (i := 1) (g := 34) (ro := [r31 A p.2.2.1,r94 B p.2.2.2.1,r91 C p.2.2.2.2.1]) (mem' := fun ⟨ac,ad,ae,af,ag,ah⟩ => [(6,.cells ((k 2).x) 28 (kc6)),(8,o31 A D p.2.2.1),(9,o94 B E p.2.2.2.1),(10,o91 C G p.2.2.2.2.1),(12,o31 ac ad u.2.2.1),(13,o94 ae af u.2.2.2.1),(14,o91 ag ah u.2.2.2.2)]) (env' := fun ⟨ac,ad,ae,af,ag,ah⟩ => [(6,pA ((k 2).x) 0),(41,.agg ((kc0 u.1 u.2.1.Epoch u.2.1.N ac u.2.2.1.length ad ae u.2.2.2.1.length af ag u.2.2.2.2.length ah)).toArray)]) [] [12,13,14] [6,41] [6,8,9,10,12,13,14] false (by kernel_rfl) (by kernel_rfl) (by kernel_rfl) (by kernel_rfl) (by kernel_rfl) (fun _ => rfl) (fun _ _ => rfl) ⟨(.inl ⟨8,_,rfl,rfl,Cov.osl_rd,fun h => by cases h⟩),(.inl ⟨9,_,rfl,rfl,Cov.osl_rd,fun h => by cases h⟩),(.inl ⟨10,_,rfl,rfl,Cov.osl_rd,fun h => by cases h⟩),trivial⟩ (by rintro ⟨ac,ad,ae,af,ag,ah⟩; kernel_rfl) (by rintro ⟨ac,ad,ae,af,ag,ah⟩; kernel_rfl) (w_pglog_Trim_2 F p.1 p.2.1 A D p.2.2.1 B E p.2.2.2.1 C G p.2.2.2.2.1 32 ao) ?_
        rintro ⟨ac,ad,ae,af,ag,ah⟩
        refine GR.ru (i := 2) 2 (env' := fun _ => [(6,pA ((k 2).x) 0),(7,vI 1)]) (mem' := fun _ => [(6,.cells ((k 2).x) 28 (kc0 u.1 u.2.1.Epoch u.2.1.N ac u.2.2.1.length ad ae u.2.2.2.1.length af ag u.2.2.2.2.length ah)),(12,o31 ac ad u.2.2.1),(13,o94 ae af u.2.2.2.1),(14,o91 ag ah u.2.2.2.2)]) (by kernel_rfl) (RunsTo.mk [(2,{ act := .store 0 0 [],key := some 6 })] [6,7] [6,12,13,14] (fun _ => [(k 2).x = (k 2).x,oC (.agg ((kc0 u.1 u.2.1.Epoch u.2.1.N ac u.2.2.1.length ad ae u.2.2.2.1.length af ag u.2.2.2.2.length ah)).toArray)]) (fun _ => by kernel_rfl) (fun _ => ⟨rfl,rfl,trivial⟩)) ?_
        intro _
        refine GR.dn (by kernel_rfl) ?_
        have hy := Option.some.inj hm
        subst hy
        refine GS.ret (fn := Tryz.f8) [6,0] [.agg ((kc0 u.1 u.2.1.Epoch u.2.1.N ac u.2.2.1.length ad ae u.2.2.2.1.length af ag u.2.2.2.2.length ah)).toArray,vI 1] [(k 2).x = (k 2).x] rfl Tryz.func8 (by kernel_rfl) ⟨rfl,trivial⟩ (fun w' hs => ?_)
        exact ⟨⟨ac,ad,ae,af,ag,ah⟩,rfl,hs.turnedG (ks := [12,13,14]) rfl rfl⟩

theorem w_tholeref13_Head (F : Nat) (l : Int) (c : S_api_Version) (b : Option Addr) (k : Nat) (a : List S_api_Entry) (d : Option Addr) (i : Nat) (f : List S_api_Last) (e : Option Addr) (j : Nat) (g : List S_api_Item) {y : S_api_Version} (hm : m_tholeref13_Head F l c a f g = some y) : CallG Tryz.prog 18 #[.agg ((kc0 l c.Epoch c.N b a.length k d f.length i e g.length j)).toArray] (X := Unit) (fun (_ : Unit) => .agg #[vI y.Epoch,vI y.N]) [] [r31 b a,r94 d f,r91 e g] (fun (_ : Unit) => []) := by
  intro w hg
  rw [m_tholeref13_Head] at hm
  refine GS.start (S := mayT [] [r31 b a,r94 d f,r91 e g]) (mem := [(1,r31 b a),(2,r94 d f),(3,r91 e g)]) Tryz.func18 rfl Tryz.ntmps18 (Nat.le_of_ble_eq_true rfl) (hg.start rfl) ?_
  refine GS.conv (env' := [(0,.agg ((kc0 l c.Epoch c.N b a.length k d f.length i e g.length j)).toArray)]) rfl rfl ?_
  refine GS.seq ?_
  refine GS.tz (fun h => [(1,pA ((h 0).x) 0),(2,pA ((h 1).x) 0)]) (fun h => [(1,r31 b a),(2,r94 d f),(3,r91 e g),(4,.cells ((h 0).x) 28 (kc0 l c.Epoch c.N b a.length k d f.length i e g.length j)),(5,.cells ((h 1).x) 23 [vI 0,vI 0])]) [(0,{ act := .new .var,key := some 4 }),(1,{ act := .new .var,key := some 5 })] ?_
  intro h
  refine GS.seq ?_
  refine GS.seq ?_
  refine GS.tgM (fun _ => [(1,pA ((h 0).x) 0),(2,pA ((h 1).x) 0),(6,.bool ((a.length : Int) == 0))]) [(1,{ act := .load 4 0 0 [] })] (fun _ => [(h 0).x = (h 0).x]) (fun _ => ⟨rfl,trivial⟩) ?_
  intro _
  refine GS.cond (t := (a.length : Int) == 0) rfl rfl (fun h3 => ?_) (fun h3 => ?_)
  · replace hm := br_t h3 hm
    refine GS.seq ?_
    refine GS.tg (fun _ => [(2,pA ((h 1).x) 0)]) (fun _ => [(5,.cells ((h 1).x) 23 [vI c.Epoch,vI c.N])]) [(1,{ act := .load 4 0 0 [] }),(2,{ act := .store 0 0 [],key := some 5 })] (fun _ => [(h 0).x = (h 0).x,(h 1).x = (h 1).x,oC (.agg #[vI c.Epoch,vI c.N])]) (fun _ => ⟨rfl,rfl,rfl,trivial⟩) ?_
    intro _
    have hy := Option.some.inj hm
    subst hy
    refine GS.ret (fn := Tryz.f18) [5] [.agg #[vI c.Epoch,vI c.N]] [(h 1).x = (h 1).x] rfl Tryz.func18 (by kernel_rfl) ⟨rfl,trivial⟩ (fun w' hs => ?_)
    exact ⟨(),rfl,hs.turnedG (ks := []) rfl rfl⟩
  · replace hm := br_f h3 hm
    refine GS.skip ?_
    refine GS.seq ?_
    refine grd_elim hm (fun g6 hm => ?_)
    refine grd_elim hm (fun g7 hm => ?_)
    refine GS.tg (fun _ => [(2,pA ((h 1).x) 0)]) (fun _ => [(5,.cells ((h 1).x) 23 [vI (((a.getD (Int.toNat ((a.length : Int) - 1)) dS_api_Entry).Version).Epoch),vI (((a.getD (Int.toNat ((a.length : Int) - 1)) dS_api_Entry).Version).N)])]) [(1,{ act := .load 4 0 0 [] }),(3,{ act := .load 4 0 0 [] }),(5,{ sp := some (vI ((a.length : Int) - 1)) }),(6,{ act := .idx 1 (Int.toNat ((a.length : Int) - 1)) }),(8,{ act := .load 1 (Int.toNat ((a.length : Int) - 1)) 0 [vI (((a.getD (Int.toNat ((a.length : Int) - 1)) dS_api_Entry).Version).Epoch),vI (((a.getD (Int.toNat ((a.length : Int) - 1)) dS_api_Entry).Version).N),.bool ((a.getD (Int.toNat ((a.length : Int) - 1)) dS_api_Entry).Remove),vI ((a.getD (Int.toNat ((a.length : Int) - 1)) dS_api_Entry).Errno),.string ((a.getD (Int.toNat ((a.length : Int) - 1)) dS_api_Entry).Name),vI ((a.getD (Int.toNat ((a.length : Int) - 1)) dS_api_Entry).Client),vI ((a.getD (Int.toNat ((a.length : Int) - 1)) dS_api_Entry).Number)] }),(9,{ act := .store 0 0 [],key := some 5 })] (fun _ => [(h 0).x = (h 0).x,(h 0).x = (h 0).x,oW ((a.length : Int) - 1),b = b,a.length = (List.map S_api_Entry.row a).length,(((a.length : Int) - 1) : Int) = (((Int.toNat ((a.length : Int) - 1)) : Nat) : Int),(Int.toNat ((a.length : Int) - 1)) < a.length,blk b = blk b,offs b + (Int.toNat ((a.length : Int) - 1)) * 7 = offs b + ((Int.toNat ((a.length : Int) - 1)) * 7 + 0),(List.map S_api_Entry.row a)[(Int.toNat ((a.length : Int) - 1))]? = some [vI (((a.getD (Int.toNat ((a.length : Int) - 1)) dS_api_Entry).Version).Epoch),vI (((a.getD (Int.toNat ((a.length : Int) - 1)) dS_api_Entry).Version).N),.bool ((a.getD (Int.toNat ((a.length : Int) - 1)) dS_api_Entry).Remove),vI ((a.getD (Int.toNat ((a.length : Int) - 1)) dS_api_Entry).Errno),.string ((a.getD (Int.toNat ((a.length : Int) - 1)) dS_api_Entry).Name),vI ((a.getD (Int.toNat ((a.length : Int) - 1)) dS_api_Entry).Client),vI ((a.getD (Int.toNat ((a.length : Int) - 1)) dS_api_Entry).Number)],(h 1).x = (h 1).x,oC (.agg #[vI (((a.getD (Int.toNat ((a.length : Int) - 1)) dS_api_Entry).Version).Epoch),vI (((a.getD (Int.toNat ((a.length : Int) - 1)) dS_api_Entry).Version).N)])]) (fun _ => ⟨rfl,rfl,I64.w g6,rfl,mlen S_api_Entry.row a,g7.eq,g7.2,rfl,rfl,map_at S_api_Entry.row dS_api_Entry g7.2,rfl,rfl,trivial⟩) ?_
    intro _
    have hy := Option.some.inj hm
    subst hy
    refine GS.ret (fn := Tryz.f18) [5] [.agg #[vI (((a.getD (Int.toNat ((a.length : Int) - 1)) dS_api_Entry).Version).Epoch),vI (((a.getD (Int.toNat ((a.length : Int) - 1)) dS_api_Entry).Version).N)]] [(h 1).x = (h 1).x] rfl Tryz.func18 (by kernel_rfl) ⟨rfl,trivial⟩ (fun w' hs => ?_)
    exact ⟨(),rfl,hs.turnedG (ks := []) rfl rfl⟩

theorem w_tholeref13_Find (F : Nat) (p : Int) (j : S_api_Version) (i : Option Addr) (o : Nat) (k : List S_api_Entry) (f : Option Addr) (m : Nat) (g : List S_api_Last) (b : Option Addr) (d : Nat) (a : List S_api_Item) (a1 : ByteArray) {y : S_api_Item × Bool} (hm : m_tholeref13_Find F p j k g a a1 = some y) : CallG Tryz.prog 39 #[.agg ((kc0 p j.Epoch j.N i k.length o f g.length m b a.length d)).toArray,.string a1] (X := Unit) (fun (_ : Unit) => .tuple #[.agg ((kc3 y.1.Name y.1.Version.Epoch y.1.Version.N y.1.Crc)).toArray,.bool y.2]) [] [r31 i k,r94 f g,r91 b a] (fun (_ : Unit) => []) := by
  intro w hg
  rw [m_tholeref13_Find] at hm
  refine GS.start (S := mayT [] [r31 i k,r94 f g,r91 b a]) (mem := [(1,r31 i k),(2,r94 f g),(3,r91 b a)]) Tryz.func39 rfl Tryz.ntmps39 (Nat.le_of_ble_eq_true rfl) (hg.start rfl) ?_
  refine GS.conv (env' := [(0,.agg ((kc0 p j.Epoch j.N i k.length o f g.length m b a.length d)).toArray),(1,.string a1)]) rfl rfl ?_
  refine GS.seq ?_
  refine GS.tz (fun e => [(1,.string a1),(2,pA ((e 0).x) 0),(4,pA ((e 1).x) 0)]) (fun e => [(1,r31 i k),(2,r94 f g),(3,r91 b a),(4,.cells ((e 0).x) 28 (kc0 p j.Epoch j.N i k.length o f g.length m b a.length d)),(5,.cells ((e 1).x) 91 (kc18))]) [(0,{ act := .new .var,key := some 4 }),(1,{ act := .new .var,key := some 5 })] ?_
  intro e
  refine GS.seq ?_
  refine GS.seq ?_
  refine GS.tg (fun _ => [(1,.string a1),(4,pA ((e 1).x) 0),(9,.slice b a.length d),(10,vI (a.length : Int)),(11,vI 0)]) (fun _ => [(3,r91 b a),(5,.cells ((e 1).x) 91 (kc18))]) [(1,{ act := .load 4 0 0 [] })] (fun _ => [(e 0).x = (e 0).x]) (fun _ => ⟨rfl,trivial⟩) ?_
  intro _
  refine GS.block ?_
  refine GS.loop ?_
  refine grd_elim hm (fun u hm => ?_)
  refine GS.rekey (env' := [(1,.string a1),(4,pA ((e 1).x) 0),(9,.slice b a.length d),(10,vI (a.length : Int)),(11,vI 0)]) (mem' := [(3,r91 b a),(5,.cells ((e 1).x) 91 (kc18))]) [1,4,9,10,11] [(3,3),(5,5)] (by kernel_rfl) (by kernel_rfl) rfl ?_
  refine loopL_elim hm (fun st35 fn36 hst37 hfn38 hm => ?_)
  refine GS.loopInv (ι := List S_api_Item × Nat) (I := fun ⟨n,c⟩ => a.drop c = n ∧ loopL st35 fn36 n c () = some y) (μ := fun ⟨n,c⟩ => n.length) (E := fun ⟨n,c⟩ => [(1,.string a1),(4,pA ((e 1).x) 0),(9,.slice b a.length d),(10,vI (a.length : Int)),(11,vI (c : Int))]) (M := fun ⟨n,c⟩ => [(3,r91 b a),(5,.cells ((e 1).x) 91 (kc18))]) ?_ ⟨a,0⟩ ⟨List.drop_zero ..,hm⟩
  rintro ⟨n,c⟩ ⟨q,hm⟩ s
  cases n with
  | nil =>
    replace hm := (hfn38 _ _).symm.trans hm
    try dsimp only at hm
    refine GS.seq ?_
    refine GS.tzM (fun _ => [(1,.string a1),(4,pA ((e 1).x) 0),(9,.slice b a.length d),(10,vI (a.length : Int)),(11,vI (c : Int)),(12,.bool (decide ((c : Int) < (a.length : Int))))]) [] ?_
    intro _
    refine GS.seq ?_
    refine GS.cond (t := decide ((c : Int) < (a.length : Int))) rfl rfl (fun v => absb v (drop_dec0 q)) (fun _ => ?_)
    refine GS.exit rfl ?_
    refine GS.seq ?_
    refine GS.tg (fun _ => [(4,pA ((e 1).x) 0),(5,.bool false)]) (fun _ => [(5,.cells ((e 1).x) 91 (kc18))]) [(1,{ act := .store 0 0 [],key := some 5 })] (fun _ => [(e 1).x = (e 1).x,oC (.agg ((kc18)).toArray)]) (fun _ => ⟨rfl,rfl,trivial⟩) ?_
    intro _
    have hy := Option.some.inj hm
    subst hy
    refine GS.ret (fn := Tryz.f39) [5,0] [.agg ((kc18)).toArray,.bool false] [(e 1).x = (e 1).x] rfl Tryz.func39 (by kernel_rfl) ⟨rfl,trivial⟩ (fun w' hs => ?_)
    exact ⟨(),rfl,hs.turnedG (ks := []) rfl rfl⟩
  | cons h n =>
    replace hm := (hst37 _ _ _ _).symm.trans hm
    try dsimp only at hm
    refine GS.seq ?_
    refine GS.tzM (fun _ => [(1,.string a1),(4,pA ((e 1).x) 0),(9,.slice b a.length d),(10,vI (a.length : Int)),(11,vI (c : Int)),(12,.bool (decide ((c : Int) < (a.length : Int))))]) [] ?_
    intro _
    refine GS.seq ?_
    refine GS.cond (t := decide ((c : Int) < (a.length : Int))) rfl rfl (fun _ => ?_) (fun z => absb (drop_dec q) z)
    refine GS.skip ?_
    refine GS.seq ?_
    refine GS.block ?_
    refine GS.seq ?_
    refine GS.tg (fun l => [(1,.string a1),(4,pA ((e 1).x) 0),(7,pA ((l 2).x) 0),(9,.slice b a.length d),(10,vI (a.length : Int)),(11,vI (c : Int))]) (fun l => [(3,r91 b a),(5,.cells ((e 1).x) 91 (kc18)),(6,.cells ((l 2).x) 91 (kc3 h.Name h.Version.Epoch h.Version.N h.Crc))]) [(0,{ act := .idx 3 c }),(1,{ act := .load 3 c 0 [.string h.Name,vI h.Version.Epoch,vI h.Version.N,.int .u32 h.Crc] }),(2,{ act := .new .var,key := some 6 }),(3,{ act := .store 0 0 [],key := some 6 })] (fun l => [b = b,a.length = (List.map S_api_Item.row a).length,((c : Int) : Int) = (c : Int),c < a.length,blk b = blk b,offs b + c * 4 = offs b + (c * 4 + 0),(List.map S_api_Item.row a)[c]? = some [.string h.Name,vI h.Version.Epoch,vI h.Version.N,.int .u32 h.Crc],(l 2).x = (l 2).x,oC (.agg ((kc3 h.Name h.Version.Epoch h.Version.N h.Crc)).toArray)]) (fun l => ⟨rfl,mlen S_api_Item.row a,rfl,(drop_lt q),rfl,rfl,map_drop S_api_Item.row q,rfl,rfl,trivial⟩) ?_
    intro l
    refine GS.seq ?_
    refine GS.tgM (fun _ => [(1,.string a1),(4,pA ((e 1).x) 0),(7,pA ((l 2).x) 0),(9,.slice b a.length d),(10,vI (a.length : Int)),(11,vI (c : Int)),(18,.bool (h.Name.toList == a1.toList))]) [(1,{ act := .load 6 0 0 [] })] (fun _ => [(l 2).x = (l 2).x]) (fun _ => ⟨rfl,trivial⟩) ?_
    intro _
    refine GS.cond (t := h.Name.toList == a1.toList) rfl rfl (fun r => ?_) (fun r => ?_)
    · replace hm := br_t r hm
      refine GS.seq ?_
      refine GS.tg (fun _ => [(4,pA ((e 1).x) 0),(5,.bool true)]) (fun _ => [(5,.cells ((e 1).x) 91 (kc3 h.Name h.Version.Epoch h.Version.N h.Crc))]) [(0,{ act := .load 6 0 0 [] }),(1,{ act := .store 0 0 [],key := some 5 })] (fun _ => [(l 2).x = (l 2).x,(e 1).x = (e 1).x,oC (.agg ((kc3 h.Name h.Version.Epoch h.Version.N h.Crc)).toArray)]) (fun _ => ⟨rfl,rfl,rfl,trivial⟩) ?_
      intro _
      have hy := Option.some.inj hm
      subst hy
      refine GS.ret (fn := Tryz.f39) [5,0] [.agg ((kc3 h.Name h.Version.Epoch h.Version.N h.Crc)).toArray,.bool true] [(e 1).x = (e 1).x] rfl Tryz.func39 (by kernel_rfl) ⟨rfl,trivial⟩ (fun w' hs => ?_)
      exact ⟨(),rfl,hs.turnedG (ks := []) rfl rfl⟩
    · replace hm := br_f r hm
      refine GS.skip ?_
      refine GS.inBlock ?_
      refine GS.tg (fun _ => [(1,.string a1),(4,pA ((e 1).x) 0),(9,.slice b a.length d),(10,vI (a.length : Int)),(11,vI ((c + 1 : Nat) : Int))]) (fun _ => [(3,r91 b a),(5,.cells ((e 1).x) 91 (kc18))]) [(0,{ sp := some (vI ((c + 1 : Nat) : Int)) })] (fun _ => [((vI (IntKind.i64.wrap ((c : Int) + 1))) : Value) = vI ((c + 1 : Nat) : Int)]) (fun _ => ⟨natw (drop_lt q) u,trivial⟩) ?_
      intro _
      refine GS.inLoop ?_
      refine GS.rekey (env' := [(1,.string a1),(4,pA ((e 1).x) 0),(9,.slice b a.length d),(10,vI (a.length : Int)),(11,vI ((c + 1 : Nat) : Int))]) (mem' := [(3,r91 b a),(5,.cells ((e 1).x) 91 (kc18))]) [1,4,9,10,11] [(3,3),(5,5)] (by kernel_rfl) (by kernel_rfl) rfl ?_
      exact s ⟨n,c + 1⟩ ⟨drop_next q,hm⟩ (Nat.lt_succ_self _)

end Go.Proofs.YtjnbkhnebmlilaaGreat
