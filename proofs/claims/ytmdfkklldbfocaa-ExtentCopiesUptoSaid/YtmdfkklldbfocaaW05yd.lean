/-
  CHAPTER 05y: the functions do what their models say (4).
-/
import Derived.Test.YtmdfkklldbfocaaM05y
import Derived.Test.YtmdfkklldbfocaaW05ya
import Derived.Test.YtmdfkklldbfocaaW05yb
set_option linter.unusedVariables false
set_option linter.unusedSimpArgs false
set_option maxRecDepth 100000
set_option maxHeartbeats 8000000
namespace Go.Proofs.Ytmdfkklldbfocaa
open Go Go.RowKit Sx

theorem w_tholeref01_Lend (F : Nat) (c : Option Addr) (g : Nat) (a0 : List UInt8) {y : List UInt8} (hm : m_tholeref01_Lend F a0 = some y) : CallG Try.prog 27 #[.slice c a0.length g] (X := Option Addr × Nat) (fun ⟨x0,x1⟩ => .tuple #[.slice x0 y.length x1,.slice (cutOb x0 1 x1 1) (((y.drop 1).take ((a0.length + 1) - 1)).length) (x1 - 1)]) [] [r5 c a0] (fun ⟨x0,x1⟩ => [o5 x0 x1 y]) := by
  intro w hg
  rw [m_tholeref01_Lend] at hm
  refine GS.start (S := mayT [] [r5 c a0]) (mem := [(1,r5 c a0)]) Try.func27 rfl Try.ntmps27 (Nat.le_of_ble_eq_true rfl) (hg.start rfl) ?_
  refine GS.conv (env' := [(0,.slice c a0.length g)]) rfl rfl ?_
  refine GS.seq ?_
  refine GS.rzM (fun _ => [(0,.slice c a0.length g)]) [] [0] [1] (fun _ => by kernel_rfl) ?_
  intro _
  refine GS.seq ?_
  refine grd_elim hm (fun g3 hm => ?_)
  refine grd_elim hm (fun g4 hm => ?_)
  refine GS.rg (fun d => [(0,.slice c a0.length g),(4,.slice (some (Addr.mk (d 3).x 0 none)) ((List.replicate (a0.length + 2) (0 : UInt8)).length) (a0.length + 2))]) (fun d => [(1,r5 c a0),(2,.osl (some (Addr.mk (d 3).x 0 none)) (a0.length + 2) 5 1 (List.replicate (a0.length + 2) [.int .u8 0]))]) [(2,{ sp := some (vI ((a0.length + 2 : Nat) : Int)) }),(3,{ act := .makeSlice (a0.length + 2) (a0.length + 2),key := some 2,spf := some (fun f => .slice (some (Addr.mk f.x 0 none)) ((List.replicate (a0.length + 2) (0 : UInt8)).length) (a0.length + 2)) })] [0,4] [1,2] (fun d => [((vI (IntKind.i64.wrap ((a0.length : Int) + 2))) : Value) = vI ((a0.length + 2 : Nat) : Int),((a0.length + 2 : Nat) : Int) = (((a0.length + 2) : Nat) : Int),((a0.length + 2 : Nat) : Int) = (((a0.length + 2) : Nat) : Int),(a0.length + 2) ≤ (a0.length + 2),(a0.length + 2) * 1 ≤ 281474976710656,(a0.length + 2) ≤ 9223372036854775807,((.slice (some (Addr.mk (d 3).x 0 none)) (a0.length + 2) (a0.length + 2)) : Value) = .slice (some (Addr.mk (d 3).x 0 none)) ((List.replicate (a0.length + 2) (0 : UInt8)).length) (a0.length + 2)]) (fun d => by kernel_rfl) (fun d => ⟨natw2 g3,rfl,rfl,(Nat.le_refl _),g4,g3,slen (List.length_replicate ..).symm,trivial⟩) ?_
  intro d
  refine GS.conv (mem' := [(1,r5 c a0),(2,o5 (some (Addr.mk (d 3).x 0 none)) (a0.length + 2) (List.replicate (a0.length + 2) (0 : UInt8)))]) rfl (congrArg (fun rr : List (List Value) => ([(1,r5 c a0),(2,.osl (some (Addr.mk (d 3).x 0 none)) (a0.length + 2) 5 1 rr)] : List (Nat × Ent))) (show List.replicate (a0.length + 2) [.int .u8 0] = List.map rB (List.replicate (a0.length + 2) (0 : UInt8)) from mrep rB (a0.length + 2) (0 : UInt8))) ?_
  refine GS.seq ?_
  refine grd_elim hm (fun g6 hm => ?_)
  refine grd_elim hm (fun g7 hm => ?_)
  refine grd_elim hm (fun g8 hm => ?_)
  refine GS.rg (fun _ => [(0,.slice c a0.length g),(4,.slice (some (Addr.mk (d 3).x 0 none)) ((List.replicate (a0.length + 2) (0 : UInt8)).length) (a0.length + 2))]) (fun _ => [(1,r5 c a0),(2,.osl (some (Addr.mk (d 3).x 0 none)) (a0.length + 2) 5 1 (((List.map rB (List.replicate (a0.length + 2) (0 : UInt8))).set 0 [.int .u8 165]).set (a0.length + 1) [.int .u8 90]))]) [(4,{ sp := some (vI ((a0.length + 1 : Nat) : Int)) }),(5,{ act := .idx 2 0 }),(6,{ act := .store 0 0 [.int .u8 ((((List.replicate (a0.length + 2) (0 : UInt8)).getD 0 0).toNat : Nat) : Int)],key := some 2 }),(7,{ act := .idx 2 (a0.length + 1) }),(8,{ act := .store (a0.length + 1) 0 [.int .u8 (((((List.replicate (a0.length + 2) (0 : UInt8)).set 0 (165 : UInt8)).getD (a0.length + 1) 0).toNat : Nat) : Int)],key := some 2 })] [0,4] [1,2] (fun _ => [((vI (IntKind.i64.wrap ((a0.length : Int) + 1))) : Value) = vI ((a0.length + 1 : Nat) : Int),some (Addr.mk (d 3).x 0 none) = some (Addr.mk (d 3).x 0 none),(List.replicate (a0.length + 2) (0 : UInt8)).length = (List.map rB (List.replicate (a0.length + 2) (0 : UInt8))).length,(0 : Int) = (0 : Int),0 < (List.replicate (a0.length + 2) (0 : UInt8)).length,blk (some (Addr.mk (d 3).x 0 none)) = blk (some (Addr.mk (d 3).x 0 none)),offs (some (Addr.mk (d 3).x 0 none)) + 0 * 1 = offs (some (Addr.mk (d 3).x 0 none)) + (0 * 1 + 0),(List.map rB (List.replicate (a0.length + 2) (0 : UInt8)))[0]? = some [.int .u8 ((((List.replicate (a0.length + 2) (0 : UInt8)).getD 0 0).toNat : Nat) : Int)],oC (.int .u8 165),some (Addr.mk (d 3).x 0 none) = some (Addr.mk (d 3).x 0 none),(List.replicate (a0.length + 2) (0 : UInt8)).length = ((List.map rB (List.replicate (a0.length + 2) (0 : UInt8))).set 0 [.int .u8 165]).length,(((a0.length + 1 : Nat) : Int) : Int) = (((a0.length + 1) : Nat) : Int),(a0.length + 1) < (List.replicate (a0.length + 2) (0 : UInt8)).length,blk (some (Addr.mk (d 3).x 0 none)) = blk (some (Addr.mk (d 3).x 0 none)),offs (some (Addr.mk (d 3).x 0 none)) + (a0.length + 1) * 1 = offs (some (Addr.mk (d 3).x 0 none)) + ((a0.length + 1) * 1 + 0),((List.map rB (List.replicate (a0.length + 2) (0 : UInt8))).set 0 [.int .u8 165])[(a0.length + 1)]? = some [.int .u8 (((((List.replicate (a0.length + 2) (0 : UInt8)).set 0 (165 : UInt8)).getD (a0.length + 1) 0).toNat : Nat) : Int)],oC (.int .u8 90)]) (fun _ => by kernel_rfl) (fun _ => ⟨natw2 g6,rfl,mlen rB (List.replicate (a0.length + 2) (0 : UInt8)),rfl,g7,rfl,rfl,map_at rB 0 g7,rfl,rfl,(by simp []),rfl,(Nat.lt_of_lt_of_eq g8 (show ((List.replicate (a0.length + 2) (0 : UInt8)).set 0 (165 : UInt8)).length = (List.replicate (a0.length + 2) (0 : UInt8)).length from (by simp []))),rfl,rfl,(by rw [show (List.map rB (List.replicate (a0.length + 2) (0 : UInt8))).set 0 [.int .u8 165] = List.map rB ((List.replicate (a0.length + 2) (0 : UInt8)).set 0 (165 : UInt8)) from mset rB (List.replicate (a0.length + 2) (0 : UInt8)) 0 (165 : UInt8)]; exact map_at rB 0 g8),rfl,trivial⟩) ?_
  intro _
  refine GS.conv (mem' := [(1,r5 c a0),(2,o5 (some (Addr.mk (d 3).x 0 none)) (a0.length + 2) (((List.replicate (a0.length + 2) (0 : UInt8)).set 0 (165 : UInt8)).set (a0.length + 1) (90 : UInt8)))]) rfl (congrArg (fun rr : List (List Value) => ([(1,r5 c a0),(2,.osl (some (Addr.mk (d 3).x 0 none)) (a0.length + 2) 5 1 rr)] : List (Nat × Ent))) (show ((List.map rB (List.replicate (a0.length + 2) (0 : UInt8))).set 0 [.int .u8 165]).set (a0.length + 1) [.int .u8 90] = List.map rB (((List.replicate (a0.length + 2) (0 : UInt8)).set 0 (165 : UInt8)).set (a0.length + 1) (90 : UInt8)) from (by rw [show (List.map rB (List.replicate (a0.length + 2) (0 : UInt8))).set 0 [.int .u8 165] = List.map rB ((List.replicate (a0.length + 2) (0 : UInt8)).set 0 (165 : UInt8)) from mset rB (List.replicate (a0.length + 2) (0 : UInt8)) 0 (165 : UInt8)]; exact mset rB ((List.replicate (a0.length + 2) (0 : UInt8)).set 0 (165 : UInt8)) (a0.length + 1) (90 : UInt8)))) ?_
  refine GS.seq ?_
  refine GS.seq ?_
  refine GS.conv (env' := [(0,.slice c a0.length g),(4,.slice (some (Addr.mk (d 3).x 0 none)) ((((List.replicate (a0.length + 2) (0 : UInt8)).set 0 (165 : UInt8)).set (a0.length + 1) (90 : UInt8)).length) (a0.length + 2))]) (congrArg (fun vhole : Value => [(0,.slice c a0.length g),(4,vhole)]) (show ((.slice (some (Addr.mk (d 3).x 0 none)) ((List.replicate (a0.length + 2) (0 : UInt8)).length) (a0.length + 2)) : Value) = .slice (some (Addr.mk (d 3).x 0 none)) ((((List.replicate (a0.length + 2) (0 : UInt8)).set 0 (165 : UInt8)).set (a0.length + 1) (90 : UInt8)).length) (a0.length + 2) from (by simp []))) rfl ?_
  refine GS.rzM (fun _ => [(0,.slice c a0.length g),(4,.slice (some (Addr.mk (d 3).x 0 none)) ((((List.replicate (a0.length + 2) (0 : UInt8)).set 0 (165 : UInt8)).set (a0.length + 1) (90 : UInt8)).length) (a0.length + 2)),(18,.slice c a0.length g),(19,vI (a0.length : Int)),(20,vI 0)]) [] [0,4,18,19,20] [1,2] (fun _ => by kernel_rfl) ?_
  intro _
  refine GS.block ?_
  refine GS.loop ?_
  refine GS.know (p := (((List.replicate (a0.length + 2) (0 : UInt8)).set 0 (165 : UInt8)).set (a0.length + 1) (90 : UInt8)).length ≤ (a0.length + 2)) (fun w hw => by first | (have h := (hw.ok 2 _ rfl).1.1; rw [List.length_map] at h; exact h) | (have h := (hw.ok 2 _ rfl).1.1; rw [nrows_len] at h; exact h) | simpa using (hw.ok 2 _ rfl).1.1) (fun v => ?_)
  refine grd_elim hm (fun l hm => ?_)
  refine GS.rekey (env' := [(0,.slice c a0.length g),(4,.slice (some (Addr.mk (d 3).x 0 none)) ((((List.replicate (a0.length + 2) (0 : UInt8)).set 0 (165 : UInt8)).set (a0.length + 1) (90 : UInt8)).length) (a0.length + 2)),(18,.slice c a0.length g),(19,vI (a0.length : Int)),(20,vI 0)]) (mem' := [(1,r5 c a0),(2,o5 (some (Addr.mk (d 3).x 0 none)) (a0.length + 2) (((List.replicate (a0.length + 2) (0 : UInt8)).set 0 (165 : UInt8)).set (a0.length + 1) (90 : UInt8)))]) [0,4,18,19,20] [(1,1),(2,2)] (by kernel_rfl) (by kernel_rfl) rfl ?_
  refine loopL_elim hm (fun st40 fn41 hst42 hfn43 hm => ?_)
  refine GS.loopInv (ι := List UInt8 × Nat × List UInt8) (I := fun ⟨i,b,e⟩ => a0.drop b = i ∧ loopL st40 fn41 i b e = some y) (μ := fun ⟨i,b,e⟩ => i.length) (E := fun ⟨i,b,e⟩ => [(0,.slice c a0.length g),(4,.slice (some (Addr.mk (d 3).x 0 none)) e.length (a0.length + 2)),(18,.slice c a0.length g),(19,vI (a0.length : Int)),(20,vI (b : Int))]) (M := fun ⟨i,b,e⟩ => [(1,r5 c a0),(2,o5 (some (Addr.mk (d 3).x 0 none)) (a0.length + 2) e)]) ?_ ⟨a0,0,(((List.replicate (a0.length + 2) (0 : UInt8)).set 0 (165 : UInt8)).set (a0.length + 1) (90 : UInt8))⟩ ⟨List.drop_zero ..,hm⟩
  rintro ⟨i,b,e⟩ ⟨k,hm⟩ m
  cases i with
  | nil =>
    replace hm := (hfn43 _ _).symm.trans hm
    try dsimp only at hm
    refine GS.seq ?_
    refine GS.rzM (fun _ => [(0,.slice c a0.length g),(4,.slice (some (Addr.mk (d 3).x 0 none)) e.length (a0.length + 2)),(18,.slice c a0.length g),(19,vI (a0.length : Int)),(20,vI (b : Int)),(21,.bool (decide ((b : Int) < (a0.length : Int))))]) [] [0,4,18,19,20,21] [1,2] (fun _ => by kernel_rfl) ?_
    intro _
    refine GS.seq ?_
    refine GS.cond (t := decide ((b : Int) < (a0.length : Int))) rfl rfl (fun r => absb r (drop_dec0 k)) (fun _ => ?_)
    refine GS.exit rfl ?_
    refine GS.seq ?_
    refine grd_elim hm (fun n hm => ?_)
    refine grd_elim hm (fun o hm => ?_)
    refine GS.know (p := e.length ≤ (a0.length + 2)) (fun w hw => by first | (have h := (hw.ok 2 _ rfl).1.1; rw [List.length_map] at h; exact h) | (have h := (hw.ok 2 _ rfl).1.1; rw [nrows_len] at h; exact h) | simpa using (hw.ok 2 _ rfl).1.1) (fun s => ?_)
    refine GS.region (env' := fun _ => [(2,.slice (some (Addr.mk (d 3).x 0 none)) e.length (a0.length + 2)),(3,.slice (cutOb (some (Addr.mk (d 3).x 0 none)) 1 (a0.length + 2) 1) (((e.drop 1).take ((a0.length + 1) - 1)).length) ((a0.length + 2) - 1))]) (mem' := fun _ => [(2,o5 (some (Addr.mk (d 3).x 0 none)) (a0.length + 2) e)]) (RunsTo.mkd [(4,{ sp := some (vI ((a0.length + 1 : Nat) : Int)) }),(5,{ act := .cut 1 (a0.length + 1) (a0.length + 2),sp := some (.slice (cutOb (some (Addr.mk (d 3).x 0 none)) 1 (a0.length + 2) 1) (((e.drop 1).take ((a0.length + 1) - 1)).length) ((a0.length + 2) - 1)) })] [2,3] [2] (fun _ => [((vI (IntKind.i64.wrap ((a0.length : Int) + 1))) : Value) = vI ((a0.length + 1 : Nat) : Int),1 = (1 : Int),((a0.length + 1 : Nat) : Int) = (((a0.length + 1) : Nat) : Int),(a0.length + 2) = (a0.length + 2),1 ≤ (a0.length + 1),(a0.length + 1) ≤ (a0.length + 2),(a0.length + 2) ≤ (a0.length + 2),(some (Operand.tmp 35) : Option Operand) = none → (none : Option Operand) = none,((.slice (if (a0.length + 2) = 1 then some (Addr.mk (d 3).x 0 none) else (some (Addr.mk (d 3).x 0 none)).map (fun a => a.add (1 * 1))) ((a0.length + 1) - 1) ((a0.length + 2) - 1)) : Value) = .slice (cutOb (some (Addr.mk (d 3).x 0 none)) 1 (a0.length + 2) 1) (((e.drop 1).take ((a0.length + 1) - 1)).length) ((a0.length + 2) - 1)]) (by kernel_rfl) (by kernel_rfl) (fun _ => by kernel_rfl) (fun _ => ⟨natw2 g6,rfl,rfl,rfl,o,(Nat.le_trans n s),(Nat.le_refl _),(by intro h; first | rfl | cases h),slen (by simp only [List.length_take,List.length_drop]; have h1 : (a0.length + 1) ≤ e.length := n; have h2 : 1 ≤ (a0.length + 1) := o; omega),trivial⟩)) ?_
    intro _
    have hy := Option.some.inj hm
    subst hy
    refine GS.ret (fn := Try.f27) [0,0] [.slice (some (Addr.mk (d 3).x 0 none)) e.length (a0.length + 2),.slice (cutOb (some (Addr.mk (d 3).x 0 none)) 1 (a0.length + 2) 1) (((e.drop 1).take ((a0.length + 1) - 1)).length) ((a0.length + 2) - 1)] [] rfl Try.func27 (by kernel_rfl) trivial (fun w' hs => ?_)
    exact ⟨⟨some (Addr.mk (d 3).x 0 none),(a0.length + 2)⟩,rfl,hs.turnedG (ks := [2]) rfl rfl⟩
  | cons j i =>
    replace hm := (hst42 _ _ _ _).symm.trans hm
    try dsimp only at hm
    refine GS.seq ?_
    refine GS.rzM (fun _ => [(0,.slice c a0.length g),(4,.slice (some (Addr.mk (d 3).x 0 none)) e.length (a0.length + 2)),(18,.slice c a0.length g),(19,vI (a0.length : Int)),(20,vI (b : Int)),(21,.bool (decide ((b : Int) < (a0.length : Int))))]) [] [0,4,18,19,20,21] [1,2] (fun _ => by kernel_rfl) ?_
    intro _
    refine GS.seq ?_
    refine GS.cond (t := decide ((b : Int) < (a0.length : Int))) rfl rfl (fun _ => ?_) (fun u => absb (drop_dec k) u)
    refine GS.skip ?_
    refine GS.seq ?_
    refine GS.block ?_
    refine GS.seq ?_
    refine GS.rgM (fun _ => [(0,.slice c a0.length g),(4,.slice (some (Addr.mk (d 3).x 0 none)) e.length (a0.length + 2)),(5,vI (b : Int)),(6,.int .u8 (j.toNat : Int)),(18,.slice c a0.length g),(19,vI (a0.length : Int)),(20,vI (b : Int))]) [(1,{ act := .idx 1 b }),(2,{ act := .load 1 b 0 [.int .u8 (j.toNat : Int)] })] [0,4,5,6,18,19,20] [1,2] (fun _ => [c = c,a0.length = (List.map rB a0).length,((b : Int) : Int) = (b : Int),b < a0.length,blk c = blk c,offs c + b * 1 = offs c + (b * 1 + 0),(List.map rB a0)[b]? = some [.int .u8 (j.toNat : Int)]]) (fun _ => by kernel_rfl) (fun _ => ⟨rfl,mlen rB a0,rfl,(drop_lt k),rfl,rfl,map_drop rB k,trivial⟩) ?_
    intro _
    refine grd_elim hm (fun q hm => ?_)
    refine GS.rg (fun _ => [(0,.slice c a0.length g),(4,.slice (some (Addr.mk (d 3).x 0 none)) e.length (a0.length + 2)),(18,.slice c a0.length g),(19,vI (a0.length : Int)),(20,vI (b : Int))]) (fun _ => [(1,r5 c a0),(2,.osl (some (Addr.mk (d 3).x 0 none)) (a0.length + 2) 5 1 ((List.map rB e).set (b + 1) [.int .u8 (j.toNat : Int)]))]) [(2,{ sp := some (vI ((b + 1 : Nat) : Int)) }),(4,{ act := .idx 2 (b + 1) }),(5,{ act := .store (b + 1) 0 [.int .u8 (((e.getD (b + 1) 0).toNat : Nat) : Int)],key := some 2 })] [0,4,18,19,20] [1,2] (fun _ => [((vI (IntKind.i64.wrap ((b : Int) + 1))) : Value) = vI ((b + 1 : Nat) : Int),some (Addr.mk (d 3).x 0 none) = some (Addr.mk (d 3).x 0 none),e.length = (List.map rB e).length,(((b + 1 : Nat) : Int) : Int) = (((b + 1) : Nat) : Int),(b + 1) < e.length,blk (some (Addr.mk (d 3).x 0 none)) = blk (some (Addr.mk (d 3).x 0 none)),offs (some (Addr.mk (d 3).x 0 none)) + (b + 1) * 1 = offs (some (Addr.mk (d 3).x 0 none)) + ((b + 1) * 1 + 0),(List.map rB e)[(b + 1)]? = some [.int .u8 (((e.getD (b + 1) 0).toNat : Nat) : Int)],oC (.int .u8 (j.toNat : Int))]) (fun _ => by kernel_rfl) (fun _ => ⟨natw (drop_lt k) l,rfl,mlen rB e,rfl,q,rfl,rfl,map_at rB 0 q,rfl,trivial⟩) ?_
    intro _
    refine GS.conv (mem' := [(1,r5 c a0),(2,o5 (some (Addr.mk (d 3).x 0 none)) (a0.length + 2) (e.set (b + 1) j))]) rfl (congrArg (fun rr : List (List Value) => ([(1,r5 c a0),(2,.osl (some (Addr.mk (d 3).x 0 none)) (a0.length + 2) 5 1 rr)] : List (Nat × Ent))) (show (List.map rB e).set (b + 1) [.int .u8 (j.toNat : Int)] = List.map rB (e.set (b + 1) j) from mset rB e (b + 1) j)) ?_
    refine GS.inBlock ?_
    refine GS.conv (env' := [(0,.slice c a0.length g),(4,.slice (some (Addr.mk (d 3).x 0 none)) ((e.set (b + 1) j).length) (a0.length + 2)),(18,.slice c a0.length g),(19,vI (a0.length : Int)),(20,vI (b : Int))]) (congrArg (fun vhole : Value => [(0,.slice c a0.length g),(4,vhole),(18,.slice c a0.length g),(19,vI (a0.length : Int)),(20,vI (b : Int))]) (show ((.slice (some (Addr.mk (d 3).x 0 none)) e.length (a0.length + 2)) : Value) = .slice (some (Addr.mk (d 3).x 0 none)) ((e.set (b + 1) j).length) (a0.length + 2) from (by simp []))) rfl ?_
    refine GS.rgM (fun _ => [(0,.slice c a0.length g),(4,.slice (some (Addr.mk (d 3).x 0 none)) ((e.set (b + 1) j).length) (a0.length + 2)),(18,.slice c a0.length g),(19,vI (a0.length : Int)),(20,vI ((b + 1 : Nat) : Int))]) [(0,{ sp := some (vI ((b + 1 : Nat) : Int)) })] [0,4,18,19,20] [1,2] (fun _ => [((vI (IntKind.i64.wrap ((b : Int) + 1))) : Value) = vI ((b + 1 : Nat) : Int)]) (fun _ => by kernel_rfl) (fun _ => ⟨natw (drop_lt k) l,trivial⟩) ?_
    intro _
    refine GS.inLoop ?_
    refine GS.rekey (env' := [(0,.slice c a0.length g),(4,.slice (some (Addr.mk (d 3).x 0 none)) ((e.set (b + 1) j).length) (a0.length + 2)),(18,.slice c a0.length g),(19,vI (a0.length : Int)),(20,vI ((b + 1 : Nat) : Int))]) (mem' := [(1,r5 c a0),(2,o5 (some (Addr.mk (d 3).x 0 none)) (a0.length + 2) (e.set (b + 1) j))]) [0,4,18,19,20] [(1,1),(2,2)] (by kernel_rfl) (by kernel_rfl) rfl ?_
    exact m ⟨i,b + 1,(e.set (b + 1) j)⟩ ⟨drop_next k,hm⟩ (Nat.lt_succ_self _)

theorem w_tholeref01_Kept (F : Nat) (b : Option Addr) (c : Nat) (a0 : List UInt8) (d : Option Addr) (e : Nat) (a1 : List UInt8) (f : a0.length ≤ c) {y : Bool} (hm : m_tholeref01_Kept F a0 a1 = some y) : CallG Try.prog 28 #[.slice b a0.length c,.slice d a1.length e] (X := Unit) (fun (_ : Unit) => .bool y) [] [r5 b a0,r5 d a1] (fun (_ : Unit) => []) := by
  intro w hg
  rw [m_tholeref01_Kept] at hm
  refine GS.start (S := mayT [] [r5 b a0,r5 d a1]) (mem := [(1,r5 b a0),(2,r5 d a1)]) Try.func28 rfl Try.ntmps28 (Nat.le_of_ble_eq_true rfl) (hg.start rfl) ?_
  refine GS.conv (env' := [(0,.slice b a0.length c),(1,.slice d a1.length e)]) rfl rfl ?_
  refine GS.seq ?_
  refine GS.rzM (fun _ => [(0,.slice b a0.length c),(1,.slice d a1.length e)]) [] [0,1] [1,2] (fun _ => by kernel_rfl) ?_
  intro _
  refine GS.seq ?_
  refine grd_elim hm (fun g3 hm => ?_)
  refine br_elim hm (fun h4 hm => ?_) (fun h4 hm => ?_)
  · skip
    refine grd_elim hm (fun g5 hm => ?_)
    refine br_elim hm (fun h6 hm => ?_) (fun h6 hm => ?_)
    · skip
      refine grd_elim hm (fun g7 hm => ?_)
      refine grd_elim hm (fun g8 hm => ?_)
      refine br_elim hm (fun h9 hm => ?_) (fun h9 hm => ?_)
      · skip
        refine grd_elim hm (fun g hm => ?_)
        refine grd_elim hm (fun i hm => ?_)
        refine GS.region (env' := fun _ => [(4,.bool ((ByteArray.mk ((a0.drop 1).take ((a1.length + 1) - 1)).toArray).toList == (ByteArray.mk a1.toArray).toList))]) (mem' := fun _ => []) (RunsTo.mkd [(4,{ sp := some (vI ((a1.length + 2 : Nat) : Int)) }),(6,{ sp := some (.bool true) }),(8,{ act := .idx 1 0 }),(9,{ act := .load 1 0 0 [.int .u8 (((a0.getD 0 0).toNat : Nat) : Int)] }),(12,{ sp := some (.bool true) }),(16,{ sp := some (vI ((a1.length + 1 : Nat) : Int)) }),(17,{ act := .idx 1 (a1.length + 1) }),(18,{ act := .load 1 (a1.length + 1) 0 [.int .u8 (((a0.getD (a1.length + 1) 0).toNat : Nat) : Int)] }),(21,{ sp := some (.bool true) }),(25,{ sp := some (vI ((a1.length + 1 : Nat) : Int)) }),(26,{ act := .cut 1 (a1.length + 1) c,sp := some (.slice (cutOb b 1 c 1) (((a0.drop 1).take ((a1.length + 1) - 1)).length) (c - 1)) }),(27,{ act := .textC 1 1 (a1.length + 1) c ((a0.drop 1).take ((a1.length + 1) - 1)) }),(29,{ act := .text 2 a1 })] [4] [] (fun _ => [((vI (IntKind.i64.wrap ((a1.length : Int) + 2))) : Value) = vI ((a1.length + 2 : Nat) : Int),((.bool ((a0.length : Int) == ((a1.length + 2 : Nat) : Int))) : Value) = .bool true,b = b,a0.length = (List.map rB a0).length,(0 : Int) = (0 : Int),0 < a0.length,blk b = blk b,offs b + 0 * 1 = offs b + (0 * 1 + 0),(List.map rB a0)[0]? = some [.int .u8 (((a0.getD 0 0).toNat : Nat) : Int)],((.bool ((((a0.getD 0 0).toNat : Nat) : Int) == 165)) : Value) = .bool true,((vI (IntKind.i64.wrap ((a1.length : Int) + 1))) : Value) = vI ((a1.length + 1 : Nat) : Int),b = b,a0.length = (List.map rB a0).length,(((a1.length + 1 : Nat) : Int) : Int) = (((a1.length + 1) : Nat) : Int),(a1.length + 1) < a0.length,blk b = blk b,offs b + (a1.length + 1) * 1 = offs b + ((a1.length + 1) * 1 + 0),(List.map rB a0)[(a1.length + 1)]? = some [.int .u8 (((a0.getD (a1.length + 1) 0).toNat : Nat) : Int)],((.bool ((((a0.getD (a1.length + 1) 0).toNat : Nat) : Int) == 90)) : Value) = .bool true,((vI (IntKind.i64.wrap ((a1.length : Int) + 1))) : Value) = vI ((a1.length + 1 : Nat) : Int),1 = (1 : Int),((a1.length + 1 : Nat) : Int) = (((a1.length + 1) : Nat) : Int),c = c,1 ≤ (a1.length + 1),(a1.length + 1) ≤ c,c ≤ c,(some (Operand.tmp 30) : Option Operand) = none → (none : Option Operand) = none,((.slice (if c = 1 then b else (b).map (fun a => a.add (1 * 1))) ((a1.length + 1) - 1) (c - 1)) : Value) = .slice (cutOb b 1 c 1) (((a0.drop 1).take ((a1.length + 1) - 1)).length) (c - 1),(cutOb b 1 c 1) = cutOb b 1 c 1,((a0.drop 1).take ((a1.length + 1) - 1)).length = ((a0.drop 1).take ((a1.length + 1) - 1)).length,1 ≤ (a1.length + 1),(a1.length + 1) ≤ c,((List.map rB a0).drop 1).take ((a1.length + 1) - 1) = encB ((a0.drop 1).take ((a1.length + 1) - 1)),d = d,a1.length = (List.map rB a1).length,List.map rB a1 = encB a1]) (by kernel_rfl) (by kernel_rfl) (fun _ => by kernel_rfl) (fun _ => ⟨natw2 g3,bool_eq h4,rfl,mlen rB a0,rfl,g5,rfl,rfl,map_at rB 0 g5,bool_eq h6,natw2 g7,rfl,mlen rB a0,rfl,g8,rfl,rfl,map_at rB 0 g8,bool_eq h9,natw2 g7,rfl,rfl,rfl,i,(Nat.le_trans g f),(Nat.le_refl _),(by intro h; first | rfl | cases h),slen (by simp only [List.length_take,List.length_drop]; have h1 : (a1.length + 1) ≤ a0.length := g; have h2 : 1 ≤ (a1.length + 1) := i; omega),rfl,rfl,i,(Nat.le_trans g f),encB_cut,rfl,mlen rB a1,rfl,trivial⟩)) ?_
        intro _
        have hy := Option.some.inj hm
        subst hy
        refine GS.ret (fn := Try.f28) [0] [.bool ((ByteArray.mk ((a0.drop 1).take ((a1.length + 1) - 1)).toArray).toList == (ByteArray.mk a1.toArray).toList)] [] rfl Try.func28 (by kernel_rfl) trivial (fun w' hs => ?_)
        exact ⟨(),rfl,hs.turnedG (ks := []) rfl rfl⟩
      · skip
        refine GS.region (env' := fun _ => [(4,.bool false)]) (mem' := fun _ => []) (RunsTo.mkd [(4,{ sp := some (vI ((a1.length + 2 : Nat) : Int)) }),(6,{ sp := some (.bool true) }),(8,{ act := .idx 1 0 }),(9,{ act := .load 1 0 0 [.int .u8 (((a0.getD 0 0).toNat : Nat) : Int)] }),(12,{ sp := some (.bool true) }),(16,{ sp := some (vI ((a1.length + 1 : Nat) : Int)) }),(17,{ act := .idx 1 (a1.length + 1) }),(18,{ act := .load 1 (a1.length + 1) 0 [.int .u8 (((a0.getD (a1.length + 1) 0).toNat : Nat) : Int)] }),(21,{ sp := some (.bool false) })] [4] [] (fun _ => [((vI (IntKind.i64.wrap ((a1.length : Int) + 2))) : Value) = vI ((a1.length + 2 : Nat) : Int),((.bool ((a0.length : Int) == ((a1.length + 2 : Nat) : Int))) : Value) = .bool true,b = b,a0.length = (List.map rB a0).length,(0 : Int) = (0 : Int),0 < a0.length,blk b = blk b,offs b + 0 * 1 = offs b + (0 * 1 + 0),(List.map rB a0)[0]? = some [.int .u8 (((a0.getD 0 0).toNat : Nat) : Int)],((.bool ((((a0.getD 0 0).toNat : Nat) : Int) == 165)) : Value) = .bool true,((vI (IntKind.i64.wrap ((a1.length : Int) + 1))) : Value) = vI ((a1.length + 1 : Nat) : Int),b = b,a0.length = (List.map rB a0).length,(((a1.length + 1 : Nat) : Int) : Int) = (((a1.length + 1) : Nat) : Int),(a1.length + 1) < a0.length,blk b = blk b,offs b + (a1.length + 1) * 1 = offs b + ((a1.length + 1) * 1 + 0),(List.map rB a0)[(a1.length + 1)]? = some [.int .u8 (((a0.getD (a1.length + 1) 0).toNat : Nat) : Int)],((.bool ((((a0.getD (a1.length + 1) 0).toNat : Nat) : Int) == 90)) : Value) = .bool false]) (by kernel_rfl) (by kernel_rfl) (fun _ => by kernel_rfl) (fun _ => ⟨natw2 g3,bool_eq h4,rfl,mlen rB a0,rfl,g5,rfl,rfl,map_at rB 0 g5,bool_eq h6,natw2 g7,rfl,mlen rB a0,rfl,g8,rfl,rfl,map_at rB 0 g8,bool_eq h9,trivial⟩)) ?_
        intro _
        have hy := Option.some.inj hm
        subst hy
        refine GS.ret (fn := Try.f28) [0] [.bool false] [] rfl Try.func28 (by kernel_rfl) trivial (fun w' hs => ?_)
        exact ⟨(),rfl,hs.turnedG (ks := []) rfl rfl⟩
    · skip
      refine GS.region (env' := fun _ => [(4,.bool false)]) (mem' := fun _ => []) (RunsTo.mkd [(4,{ sp := some (vI ((a1.length + 2 : Nat) : Int)) }),(6,{ sp := some (.bool true) }),(8,{ act := .idx 1 0 }),(9,{ act := .load 1 0 0 [.int .u8 (((a0.getD 0 0).toNat : Nat) : Int)] }),(12,{ sp := some (.bool false) })] [4] [] (fun _ => [((vI (IntKind.i64.wrap ((a1.length : Int) + 2))) : Value) = vI ((a1.length + 2 : Nat) : Int),((.bool ((a0.length : Int) == ((a1.length + 2 : Nat) : Int))) : Value) = .bool true,b = b,a0.length = (List.map rB a0).length,(0 : Int) = (0 : Int),0 < a0.length,blk b = blk b,offs b + 0 * 1 = offs b + (0 * 1 + 0),(List.map rB a0)[0]? = some [.int .u8 (((a0.getD 0 0).toNat : Nat) : Int)],((.bool ((((a0.getD 0 0).toNat : Nat) : Int) == 165)) : Value) = .bool false]) (by kernel_rfl) (by kernel_rfl) (fun _ => by kernel_rfl) (fun _ => ⟨natw2 g3,bool_eq h4,rfl,mlen rB a0,rfl,g5,rfl,rfl,map_at rB 0 g5,bool_eq h6,trivial⟩)) ?_
      intro _
      have hy := Option.some.inj hm
      subst hy
      refine GS.ret (fn := Try.f28) [0] [.bool false] [] rfl Try.func28 (by kernel_rfl) trivial (fun w' hs => ?_)
      exact ⟨(),rfl,hs.turnedG (ks := []) rfl rfl⟩
  · skip
    refine GS.region (env' := fun _ => [(4,.bool false)]) (mem' := fun _ => []) (RunsTo.mkd [(4,{ sp := some (vI ((a1.length + 2 : Nat) : Int)) }),(6,{ sp := some (.bool false) })] [4] [] (fun _ => [((vI (IntKind.i64.wrap ((a1.length : Int) + 2))) : Value) = vI ((a1.length + 2 : Nat) : Int),((.bool ((a0.length : Int) == ((a1.length + 2 : Nat) : Int))) : Value) = .bool false]) (by kernel_rfl) (by kernel_rfl) (fun _ => by kernel_rfl) (fun _ => ⟨natw2 g3,bool_eq h4,trivial⟩)) ?_
    intro _
    have hy := Option.some.inj hm
    subst hy
    refine GS.ret (fn := Try.f28) [0] [.bool false] [] rfl Try.func28 (by kernel_rfl) trivial (fun w' hs => ?_)
    exact ⟨(),rfl,hs.turnedG (ks := []) rfl rfl⟩

theorem w_tholeref05_fits (F : Nat) (a0 : Int) (a1 : Int) {y : Int} (hm : m_tholeref05_fits F a0 a1 = some y) : CallG Try.prog 35 #[vI a0,vI a1] (X := Unit) (fun (_ : Unit) => vI y) [] [] (fun (_ : Unit) => []) := by
  intro w hg
  rw [m_tholeref05_fits] at hm
  refine GS.start (S := mayT [] []) (mem := []) Try.func35 rfl Try.ntmps35 (Nat.le_of_ble_eq_true rfl) (hg.start rfl) ?_
  refine GS.conv (env' := [(0,vI a0),(1,vI a1)]) rfl rfl ?_
  refine GS.seq ?_
  refine GS.rzM (fun _ => [(0,vI a0),(1,vI a1)]) [] [0,1] [] (fun _ => by kernel_rfl) ?_
  intro _
  refine GS.seq ?_
  refine GS.seq ?_
  refine jn_elim hm (fun J4 g hm => ?_)
  refine GS.cut (ι := Bool) (I := fun (a : Bool) => J4 a = some y) (E := fun (a : Bool) => [(0,vI a0),(1,vI a1),(10,.bool a)]) (M := fun (a : Bool) => []) ?_ ?_
  rotate_left
  · intro H5
    refine br_elim hm (fun h3 hm => ?_) (fun h3 hm => ?_)
    · skip
      refine GS.rgM (fun _ => [(0,vI a0),(1,vI a1),(10,.bool true)]) [(2,{ sp := some (.bool true) })] [0,1,10] [] (fun _ => [((.bool (decide (a0 < 0))) : Value) = .bool true]) (fun _ => by kernel_rfl) (fun _ => ⟨bool_eq h3,trivial⟩) ?_
      intro _
      refine GS.rekey (env' := [(0,vI a0),(1,vI a1),(10,.bool true)]) (mem' := []) [0,1,10] [] (by kernel_rfl) (by kernel_rfl) rfl ?_
      exact H5 true hm
    · skip
      refine GS.rgM (fun _ => [(0,vI a0),(1,vI a1),(10,.bool (decide (a1 < 0)))]) [(2,{ sp := some (.bool false) })] [0,1,10] [] (fun _ => [((.bool (decide (a0 < 0))) : Value) = .bool false]) (fun _ => by kernel_rfl) (fun _ => ⟨bool_eq h3,trivial⟩) ?_
      intro _
      refine GS.rekey (env' := [(0,vI a0),(1,vI a1),(10,.bool (decide (a1 < 0)))]) (mem' := []) [0,1,10] [] (by kernel_rfl) (by kernel_rfl) rfl ?_
      exact H5 (decide (a1 < 0)) hm
  · rintro a hm
    replace hm := (g _).symm.trans hm
    try dsimp only at hm
    refine GS.cond (t := a) rfl rfl (fun h7 => ?_) (fun h7 => ?_)
    · replace hm := br_t h7 hm
      refine GS.seq ?_
      refine GS.rzM (fun _ => [(4,vI 22)]) [] [4] [] (fun _ => by kernel_rfl) ?_
      intro _
      have hy := Option.some.inj hm
      subst hy
      refine GS.ret (fn := Try.f35) [0] [vI 22] [] rfl Try.func35 (by kernel_rfl) trivial (fun w' hs => ?_)
      exact ⟨(),rfl,hs.turnedG (ks := []) rfl rfl⟩
    · replace hm := br_f h7 hm
      refine GS.skip ?_
      refine GS.seq ?_
      refine GS.seq ?_
      refine jn_elim hm (fun h e hm => ?_)
      refine GS.cut (ι := Bool) (I := fun (b : Bool) => h b = some y) (E := fun (b : Bool) => [(18,.bool b)]) (M := fun (b : Bool) => []) ?_ ?_
      rotate_left
      · intro f
        refine br_elim hm (fun c hm => ?_) (fun c hm => ?_)
        · skip
          refine GS.rgM (fun _ => [(18,.bool true)]) [(2,{ sp := some (.bool true) })] [18] [] (fun _ => [((.bool (decide (a0 > 4096))) : Value) = .bool true]) (fun _ => by kernel_rfl) (fun _ => ⟨bool_eq c,trivial⟩) ?_
          intro _
          refine GS.rekey (env' := [(18,.bool true)]) (mem' := []) [18] [] (by kernel_rfl) (by kernel_rfl) rfl ?_
          exact f true hm
        · skip
          refine grd_elim hm (fun i hm => ?_)
          refine GS.rgM (fun _ => [(18,.bool (decide (a1 > (4096 - a0))))]) [(2,{ sp := some (.bool false) }),(5,{ sp := some (vI (4096 - a0)) })] [18] [] (fun _ => [((.bool (decide (a0 > 4096))) : Value) = .bool false,oW (4096 - a0)]) (fun _ => by kernel_rfl) (fun _ => ⟨bool_eq c,I64.w i,trivial⟩) ?_
          intro _
          refine GS.rekey (env' := [(18,.bool (decide (a1 > (4096 - a0))))]) (mem' := []) [18] [] (by kernel_rfl) (by kernel_rfl) rfl ?_
          exact f (decide (a1 > (4096 - a0))) hm
      · rintro b hm
        replace hm := (e _).symm.trans hm
        try dsimp only at hm
        refine GS.cond (t := b) rfl rfl (fun d => ?_) (fun d => ?_)
        · replace hm := br_t d hm
          refine GS.seq ?_
          refine GS.rzM (fun _ => [(4,vI 27)]) [] [4] [] (fun _ => by kernel_rfl) ?_
          intro _
          have hy := Option.some.inj hm
          subst hy
          refine GS.ret (fn := Try.f35) [0] [vI 27] [] rfl Try.func35 (by kernel_rfl) trivial (fun w' hs => ?_)
          exact ⟨(),rfl,hs.turnedG (ks := []) rfl rfl⟩
        · replace hm := br_f d hm
          refine GS.skip ?_
          refine GS.seq ?_
          refine GS.rzM (fun _ => [(4,vI 0)]) [] [4] [] (fun _ => by kernel_rfl) ?_
          intro _
          have hy := Option.some.inj hm
          subst hy
          refine GS.ret (fn := Try.f35) [0] [vI 0] [] rfl Try.func35 (by kernel_rfl) trivial (fun w' hs => ?_)
          exact ⟨(),rfl,hs.turnedG (ks := []) rfl rfl⟩

theorem w___tholeref05_Map__grow (F : Nat) (k : Nat) (e : Option Addr) (g : Nat) (j : List UInt8) (h : Option Addr) (i : Nat) (l : List Bool) (a1 : Int) {y : List UInt8 × List Bool} (hm : m___tholeref05_Map__grow F j l a1 = some y) : CallG Try.prog 36 #[pA k 0,vI a1] (X := Option Addr × Nat × Option Addr × Nat) (fun ⟨x0,x1,x2,x3⟩ => .tuple #[]) [o5 e g j,o4 h i l,.cells k 48 [.slice e j.length g,.slice h l.length i]] [] (fun ⟨x0,x1,x2,x3⟩ => [o5 x0 x1 y.1,o4 x2 x3 y.2,.cells k 48 [.slice x0 y.1.length x1,.slice x2 y.2.length x3]]) := by
  intro w hg
  rw [m___tholeref05_Map__grow] at hm
  refine GS.start (S := mayT [o5 e g j,o4 h i l,.cells k 48 [.slice e j.length g,.slice h l.length i]] []) (mem := [(1,o5 e g j),(2,o4 h i l),(3,.cells k 48 [.slice e j.length g,.slice h l.length i])]) Try.func36 rfl Try.ntmps36 (Nat.le_of_ble_eq_true rfl) (hg.start rfl) ?_
  refine GS.conv (env' := [(0,pA k 0),(1,vI a1)]) rfl rfl ?_
  refine GS.block ?_
  refine GS.loop ?_
  refine GS.rekey (env' := [(0,pA k 0),(1,vI a1)]) (mem' := [(1,o5 e g j),(2,o4 h i l),(3,.cells k 48 [.slice e j.length g,.slice h l.length i])]) [0,1] [(1,1),(2,2),(3,3)] (by kernel_rfl) (by kernel_rfl) rfl ?_
  refine loopW_elim hm (fun st23 hst25 hm => ?_)
  refine GS.loopInv (ι := Nat × List UInt8 × List Bool × Option Addr × Nat × Option Addr × Nat) (I := fun ⟨o,b,c,p,q,m,n⟩ => loopW st23 o (b,c) = some y) (μ := fun ⟨o,b,c,p,q,m,n⟩ => o) (E := fun ⟨o,b,c,p,q,m,n⟩ => [(0,pA k 0),(1,vI a1)]) (M := fun ⟨o,b,c,p,q,m,n⟩ => [(1,o5 p q b),(2,o4 m n c),(3,.cells k 48 [.slice p b.length q,.slice m c.length n])]) ?_ ⟨F,j,l,e,g,h,i⟩ hm
  rintro ⟨o,b,c,p,q,m,n⟩ hm s
  cases o with
  | zero => cases hm
  | succ o =>
    replace hm := (hst25 _ _).symm.trans hm
    try dsimp only at hm
    refine GS.seq ?_
    refine GS.seq ?_
    refine GS.rgM (fun _ => [(0,pA k 0),(1,vI a1),(10,.bool (decide ((b.length : Int) < a1)))]) [(3,{ act := .load 3 0 0 [] })] [0,1,10] [1,2,3] (fun _ => [k = k]) (fun _ => by kernel_rfl) (fun _ => ⟨rfl,trivial⟩) ?_
    intro _
    refine GS.cond (t := decide ((b.length : Int) < a1)) rfl rfl (fun r => ?_) (fun r => ?_)
    · replace hm := br_t r hm
      refine GS.skip ?_
      refine GS.block ?_
      refine GS.seq ?_
      refine grd_elim hm (fun u hm => ?_)
      refine GS.rg (fun a => [(0,pA k 0),(1,vI a1)]) (fun a => [(1,.osl ((a 6).ob) ((a 6).cap) 5 1 ((List.map rB b) ++ ([[.int .u8 0]] : List (List Value)))),(2,o4 m n c),(3,.cells k 48 [.slice ((a 6).ob) ((b ++ [(0 : UInt8)]).length) ((a 6).cap),.slice m c.length n])]) [(4,{ act := .load 3 0 0 [] }),(5,{ act := .new (.row 1 1),key := some 4,spf := some (fun f => .slice (some (Addr.mk f.x 0 none)) ([(0 : UInt8)].length) 1) }),(6,{ act := .app (some 4),key := some 1,spf := some (fun f => .slice (f.ob) ((b ++ [(0 : UInt8)]).length) (f.cap)) }),(9,{ act := .store 0 0 [],key := some 3 })] [0,1] [1,2,3] (fun a => [k = k,((.slice (some (Addr.mk (a 5).x 0 none)) 1 1) : Value) = .slice (some (Addr.mk (a 5).x 0 none)) ([(0 : UInt8)].length) 1,(some (Addr.mk (a 5).x 0 none)) = (some (Addr.mk (a 5).x 0 none)),[(0 : UInt8)].length = ([[.int .u8 0]] : List (List Value)).length,p = p,q = q,b.length = (List.map rB b).length,((List.map rB b).length + ([[.int .u8 0]] : List (List Value)).length) * (1 + 1) ≤ 70368744177664,([[.int .u8 0]] : List (List Value)).flatten.all Value.oneCell' = true,((.slice ((a 6).ob) (b.length + ([[.int .u8 0]] : List (List Value)).length) ((a 6).cap)) : Value) = .slice ((a 6).ob) ((b ++ [(0 : UInt8)]).length) ((a 6).cap),k = k,oC (.slice ((a 6).ob) ((b ++ [(0 : UInt8)]).length) ((a 6).cap))]) (fun a => by kernel_rfl) (fun a => ⟨rfl,rfl,rfl,(by rw [show ([[.int .u8 0]] : List (List Value)) = List.map rB [(0 : UInt8)] from rfl]; exact mlen rB [(0 : UInt8)]),rfl,rfl,mlen rB b,appb u (mlen rB b).symm (by rw [show ([[.int .u8 0]] : List (List Value)) = List.map rB [(0 : UInt8)] from rfl]; exact (mlen rB [(0 : UInt8)]).symm),(by rw [show ([[.int .u8 0]] : List (List Value)) = List.map rB [(0 : UInt8)] from (show ([[.int .u8 0]] : List (List Value)) = List.map rB [(0 : UInt8)] from rfl)]; exact all_one rB _ (fun _ => rfl)),slen (by simp),rfl,rfl,trivial⟩) ?_
      intro a
      refine GS.conv (mem' := [(1,o5 ((a 6).ob) ((a 6).cap) (b ++ [(0 : UInt8)])),(2,o4 m n c),(3,.cells k 48 [.slice ((a 6).ob) ((b ++ [(0 : UInt8)]).length) ((a 6).cap),.slice m c.length n])]) rfl (congrArg (fun rr : List (List Value) => ([(1,.osl ((a 6).ob) ((a 6).cap) 5 1 rr),(2,o4 m n c),(3,.cells k 48 [.slice ((a 6).ob) ((b ++ [(0 : UInt8)]).length) ((a 6).cap),.slice m c.length n])] : List (Nat × Ent))) (show (List.map rB b) ++ ([[.int .u8 0]] : List (List Value)) = List.map rB (b ++ [(0 : UInt8)]) from (by rw [show List.map rB b = List.map rB b from rfl,show ([[.int .u8 0]] : List (List Value)) = List.map rB [(0 : UInt8)] from (show ([[.int .u8 0]] : List (List Value)) = List.map rB [(0 : UInt8)] from rfl)]; exact mapp rB _ _))) ?_
      refine grd_elim hm (fun v hm => ?_)
      refine GS.rg (fun d => [(0,pA k 0),(1,vI a1)]) (fun d => [(1,o5 ((a 6).ob) ((a 6).cap) (b ++ [(0 : UInt8)])),(2,.osl ((d 6).ob) ((d 6).cap) 4 1 ((List.map rBo c) ++ ([[.bool false]] : List (List Value)))),(3,.cells k 48 [.slice ((a 6).ob) ((b ++ [(0 : UInt8)]).length) ((a 6).cap),.slice ((d 6).ob) ((c ++ [false]).length) ((d 6).cap)])]) [(4,{ act := .load 3 0 0 [] }),(5,{ act := .new (.row 1 1),key := some 5,spf := some (fun f => .slice (some (Addr.mk f.x 0 none)) ([false].length) 1) }),(6,{ act := .app (some 5),key := some 2,spf := some (fun f => .slice (f.ob) ((c ++ [false]).length) (f.cap)) }),(9,{ act := .store 0 0 [],key := some 3 })] [0,1] [1,2,3] (fun d => [k = k,((.slice (some (Addr.mk (d 5).x 0 none)) 1 1) : Value) = .slice (some (Addr.mk (d 5).x 0 none)) ([false].length) 1,(some (Addr.mk (d 5).x 0 none)) = (some (Addr.mk (d 5).x 0 none)),[false].length = ([[.bool false]] : List (List Value)).length,m = m,n = n,c.length = (List.map rBo c).length,((List.map rBo c).length + ([[.bool false]] : List (List Value)).length) * (1 + 1) ≤ 70368744177664,([[.bool false]] : List (List Value)).flatten.all Value.oneCell' = true,((.slice ((d 6).ob) (c.length + ([[.bool false]] : List (List Value)).length) ((d 6).cap)) : Value) = .slice ((d 6).ob) ((c ++ [false]).length) ((d 6).cap),k = k,oC (.slice ((d 6).ob) ((c ++ [false]).length) ((d 6).cap))]) (fun d => by kernel_rfl) (fun d => ⟨rfl,rfl,rfl,(by rw [show ([[.bool false]] : List (List Value)) = List.map rBo [false] from rfl]; exact mlen rBo [false]),rfl,rfl,mlen rBo c,appb v (mlen rBo c).symm (by rw [show ([[.bool false]] : List (List Value)) = List.map rBo [false] from rfl]; exact (mlen rBo [false]).symm),(by rw [show ([[.bool false]] : List (List Value)) = List.map rBo [false] from (show ([[.bool false]] : List (List Value)) = List.map rBo [false] from rfl)]; exact all_one rBo _ (fun _ => rfl)),slen (by simp),rfl,rfl,trivial⟩) ?_
      intro d
      refine GS.conv (mem' := [(1,o5 ((a 6).ob) ((a 6).cap) (b ++ [(0 : UInt8)])),(2,o4 ((d 6).ob) ((d 6).cap) (c ++ [false])),(3,.cells k 48 [.slice ((a 6).ob) ((b ++ [(0 : UInt8)]).length) ((a 6).cap),.slice ((d 6).ob) ((c ++ [false]).length) ((d 6).cap)])]) rfl (congrArg (fun rr : List (List Value) => ([(1,o5 ((a 6).ob) ((a 6).cap) (b ++ [(0 : UInt8)])),(2,.osl ((d 6).ob) ((d 6).cap) 4 1 rr),(3,.cells k 48 [.slice ((a 6).ob) ((b ++ [(0 : UInt8)]).length) ((a 6).cap),.slice ((d 6).ob) ((c ++ [false]).length) ((d 6).cap)])] : List (Nat × Ent))) (show (List.map rBo c) ++ ([[.bool false]] : List (List Value)) = List.map rBo (c ++ [false]) from (by rw [show List.map rBo c = List.map rBo c from rfl,show ([[.bool false]] : List (List Value)) = List.map rBo [false] from (show ([[.bool false]] : List (List Value)) = List.map rBo [false] from rfl)]; exact mapp rBo _ _))) ?_
      refine GS.inBlock ?_
      refine GS.inLoop ?_
      refine GS.rekey (env' := [(0,pA k 0),(1,vI a1)]) (mem' := [(1,o5 ((a 6).ob) ((a 6).cap) (b ++ [(0 : UInt8)])),(2,o4 ((d 6).ob) ((d 6).cap) (c ++ [false])),(3,.cells k 48 [.slice ((a 6).ob) ((b ++ [(0 : UInt8)]).length) ((a 6).cap),.slice ((d 6).ob) ((c ++ [false]).length) ((d 6).cap)])]) [0,1] [(1,1),(2,2),(3,3)] (by kernel_rfl) (by kernel_rfl) rfl ?_
      exact s ⟨o,(b ++ [(0 : UInt8)]),(c ++ [false]),(a 6).ob,(a 6).cap,(d 6).ob,(d 6).cap⟩ hm (Nat.lt_succ_self _)
    · replace hm := br_f r hm
      refine GS.exit rfl ?_
      have hy := Option.some.inj hm
      subst hy
      refine GS.end_ (fn := Try.f36) [] [] [] rfl Try.func36 (by kernel_rfl) trivial (fun w' hs => ?_)
      exact ⟨⟨p,q,m,n⟩,rfl,hs.turnedG (ks := [1,2,3]) rfl rfl⟩

theorem w___tholeref05_Map__Write (F : Nat) (l : Nat) (c : Option Addr) (d : Nat) (m : List UInt8) (j : Option Addr) (k : Nat) (q : List Bool) (a1 : Int) (b : Option Addr) (u : Nat) (a2 : List UInt8) {y : Int × List UInt8 × List Bool} (hm : m___tholeref05_Map__Write F m q a1 a2 = some y) : CallG Try.prog 29 #[pA l 0,vI a1,.slice b a2.length u] (X := Option Addr × Nat × Option Addr × Nat) (fun ⟨x0,x1,x2,x3⟩ => vI y.1) [o5 c d m,o4 j k q,.cells l 48 [.slice c m.length d,.slice j q.length k]] [r5 b a2] (fun ⟨x0,x1,x2,x3⟩ => [o5 x0 x1 y.2.1,o4 x2 x3 y.2.2,.cells l 48 [.slice x0 y.2.1.length x1,.slice x2 y.2.2.length x3]]) := by
  intro w hg
  rw [m___tholeref05_Map__Write] at hm
  refine GS.start (S := mayT [o5 c d m,o4 j k q,.cells l 48 [.slice c m.length d,.slice j q.length k]] [r5 b a2]) (mem := [(1,o5 c d m),(2,o4 j k q),(3,.cells l 48 [.slice c m.length d,.slice j q.length k]),(4,r5 b a2)]) Try.func29 rfl Try.ntmps29 (Nat.le_of_ble_eq_true rfl) (hg.start rfl) ?_
  refine GS.conv (env' := [(0,pA l 0),(1,vI a1),(2,.slice b a2.length u)]) rfl rfl ?_
  refine GS.seq ?_
  refine GS.rzM (fun _ => [(0,pA l 0),(1,vI a1),(2,.slice b a2.length u)]) [] [0,1,2] [1,2,3,4] (fun _ => by kernel_rfl) ?_
  intro _
  refine GS.seq ?_
  refine GS.seq ?_
  refine bnd_elim hm (fun y3 e4 hm => ?_)
  refine GS.rgM (fun _ => [(0,pA l 0),(1,vI a1),(2,.slice b a2.length u),(7,vI y3)]) [(3,{ act := .call [] (vI y3) })] [0,1,2,7] [1,2,3,4] (fun _ => [CallOK Try.prog 35 #[vI a1,vI (a2.length : Int)] (vI y3) []]) (fun _ => by kernel_rfl) (fun _ => ⟨(by have h1 := w_tholeref05_fits F a1 (a2.length : Int) e4; exact h1.ok trivial),trivial⟩) ?_
  intro _
  refine GS.seq ?_
  refine GS.rzM (fun _ => [(0,pA l 0),(1,vI a1),(2,.slice b a2.length u),(7,vI y3),(15,.bool (y3 != 0))]) [] [0,1,2,7,15] [1,2,3,4] (fun _ => by kernel_rfl) ?_
  intro _
  refine GS.cond (t := y3 != 0) rfl rfl (fun h6 => ?_) (fun h6 => ?_)
  · replace hm := br_t h6 hm
    refine GS.seq ?_
    refine GS.rz (fun _ => [(6,vI y3)]) (fun _ => [(1,o5 c d m),(2,o4 j k q),(3,.cells l 48 [.slice c m.length d,.slice j q.length k])]) [] [6] [1,2,3] (fun _ => by kernel_rfl) ?_
    intro _
    have hy := Option.some.inj hm
    subst hy
    refine GS.ret (fn := Try.f29) [0] [vI y3] [] rfl Try.func29 (by kernel_rfl) trivial (fun w' hs => ?_)
    exact ⟨⟨c,d,j,k⟩,rfl,hs.turnedG (ks := [1,2,3]) rfl rfl⟩
  · replace hm := br_f h6 hm
    refine GS.skip ?_
    refine GS.seq ?_
    refine GS.seq ?_
    refine GS.rzM (fun _ => [(0,pA l 0),(1,vI a1),(2,.slice b a2.length u),(19,.bool ((a2.length : Int) == 0))]) [] [0,1,2,19] [1,2,3,4] (fun _ => by kernel_rfl) ?_
    intro _
    refine GS.cond (t := (a2.length : Int) == 0) rfl rfl (fun h9 => ?_) (fun h9 => ?_)
    · replace hm := br_t h9 hm
      refine GS.seq ?_
      refine GS.rz (fun _ => [(6,vI 0)]) (fun _ => [(1,o5 c d m),(2,o4 j k q),(3,.cells l 48 [.slice c m.length d,.slice j q.length k])]) [] [6] [1,2,3] (fun _ => by kernel_rfl) ?_
      intro _
      have hy := Option.some.inj hm
      subst hy
      refine GS.ret (fn := Try.f29) [0] [vI 0] [] rfl Try.func29 (by kernel_rfl) trivial (fun w' hs => ?_)
      exact ⟨⟨c,d,j,k⟩,rfl,hs.turnedG (ks := [1,2,3]) rfl rfl⟩
    · replace hm := br_f h9 hm
      refine GS.skip ?_
      refine GS.seq ?_
      refine grd_elim hm (fun H hm => ?_)
      refine bnd_elim hm (fun z J hm => ?_)
      refine GS.open_ ?_
      refine GR.rM (i := 0) 5 (env' := fun _ => [(0,pA l 0),(1,vI a1),(2,.slice b a2.length u),(20,pA l 0),(24,vI (a1 + (a2.length : Int)))]) (by kernel_rfl) (RunsTo.mk [(4,{ sp := some (vI (a1 + (a2.length : Int))) })] [0,1,2,20,24] [1,2,3,4] (fun _ => [oW (a1 + (a2.length : Int))]) (fun _ => by kernel_rfl) (fun _ => ⟨I64.w H,trivial⟩)) ?_
      intro _
      refine GR.callG (X := Option Addr × Nat × Option Addr × Nat) (i := 5) (g := 36) (ro := []) (mem' := fun ⟨n,r,o,s⟩ => [(3,.cells l 48 [.slice n z.1.length r,.slice o z.2.length s]),(4,r5 b a2),(5,o5 n r z.1),(6,o4 o s z.2)]) (env' := fun ⟨n,r,o,s⟩ => [(0,pA l 0),(1,vI a1),(2,.slice b a2.length u)]) [1,2,3] [5,6,3] [0,1,2] [3,4,5,6] false (by kernel_rfl) (by kernel_rfl) (by kernel_rfl) (by kernel_rfl) (by kernel_rfl) (fun _ => rfl) (fun _ _ => rfl) trivial (by rintro ⟨n,r,o,s⟩; kernel_rfl) (by rintro ⟨n,r,o,s⟩; kernel_rfl) (w___tholeref05_Map__grow F l c d m j k q (a1 + (a2.length : Int)) J) ?_
      rintro ⟨n,r,o,s⟩
      refine GR.dn (by kernel_rfl) ?_
      refine GS.seq ?_
      refine GS.seq ?_
      refine GS.rzM (fun _ => [(0,pA l 0),(1,vI a1),(26,.slice b a2.length u),(27,vI (a2.length : Int)),(28,vI 0)]) [] [0,1,26,27,28] [3,4,5,6] (fun _ => by kernel_rfl) ?_
      intro _
      refine GS.block ?_
      refine GS.loop ?_
      refine GS.know (p := z.1.length ≤ r) (fun w hw => by first | (have h := (hw.ok 5 _ rfl).1.1; rw [List.length_map] at h; exact h) | (have h := (hw.ok 5 _ rfl).1.1; rw [nrows_len] at h; exact h) | simpa using (hw.ok 5 _ rfl).1.1) (fun O => ?_)
      refine GS.know (p := z.2.length ≤ s) (fun w hw => by first | (have h := (hw.ok 6 _ rfl).1.1; rw [List.length_map] at h; exact h) | (have h := (hw.ok 6 _ rfl).1.1; rw [nrows_len] at h; exact h) | simpa using (hw.ok 6 _ rfl).1.1) (fun P => ?_)
      refine grd_elim hm (fun K hm => ?_)
      refine GS.rekey (env' := [(0,pA l 0),(1,vI a1),(26,.slice b a2.length u),(27,vI (a2.length : Int)),(28,vI 0)]) (mem' := [(3,.cells l 48 [.slice n z.1.length r,.slice o z.2.length s]),(4,r5 b a2),(5,o5 n r z.1),(6,o4 o s z.2)]) [0,1,26,27,28] [(3,3),(4,4),(5,5),(6,6)] (by kernel_rfl) (by kernel_rfl) rfl ?_
      refine loopL_elim hm (fun st58 fn59 hst60 hfn61 hm => ?_)
      refine GS.loopInv (ι := List UInt8 × Nat × List UInt8 × List Bool) (I := fun ⟨x,a,e,f⟩ => a2.drop a = x ∧ loopL st58 fn59 x a (e,f) = some y) (μ := fun ⟨x,a,e,f⟩ => x.length) (E := fun ⟨x,a,e,f⟩ => [(0,pA l 0),(1,vI a1),(26,.slice b a2.length u),(27,vI (a2.length : Int)),(28,vI (a : Int))]) (M := fun ⟨x,a,e,f⟩ => [(3,.cells l 48 [.slice n e.length r,.slice o f.length s]),(4,r5 b a2),(5,o5 n r e),(6,o4 o s f)]) ?_ ⟨a2,0,z.1,z.2⟩ ⟨List.drop_zero ..,hm⟩
      rintro ⟨x,a,e,f⟩ ⟨A,hm⟩ D
      cases x with
      | nil =>
        replace hm := (hfn61 _ _).symm.trans hm
        try dsimp only at hm
        refine GS.seq ?_
        refine GS.rzM (fun _ => [(0,pA l 0),(1,vI a1),(26,.slice b a2.length u),(27,vI (a2.length : Int)),(28,vI (a : Int)),(29,.bool (decide ((a : Int) < (a2.length : Int))))]) [] [0,1,26,27,28,29] [3,4,5,6] (fun _ => by kernel_rfl) ?_
        intro _
        refine GS.seq ?_
        refine GS.cond (t := decide ((a : Int) < (a2.length : Int))) rfl rfl (fun L => absb L (drop_dec0 A)) (fun _ => ?_)
        refine GS.exit rfl ?_
        refine GS.seq ?_
        refine GS.rz (fun _ => [(6,vI 0)]) (fun _ => [(3,.cells l 48 [.slice n e.length r,.slice o f.length s]),(5,o5 n r e),(6,o4 o s f)]) [] [6] [3,5,6] (fun _ => by kernel_rfl) ?_
        intro _
        have hy := Option.some.inj hm
        subst hy
        refine GS.ret (fn := Try.f29) [0] [vI 0] [] rfl Try.func29 (by kernel_rfl) trivial (fun w' hs => ?_)
        exact ⟨⟨n,r,o,s⟩,rfl,hs.turnedG (ks := [5,6,3]) rfl rfl⟩
      | cons v x =>
        replace hm := (hst60 _ _ _ _).symm.trans hm
        try dsimp only at hm
        refine GS.seq ?_
        refine GS.rzM (fun _ => [(0,pA l 0),(1,vI a1),(26,.slice b a2.length u),(27,vI (a2.length : Int)),(28,vI (a : Int)),(29,.bool (decide ((a : Int) < (a2.length : Int))))]) [] [0,1,26,27,28,29] [3,4,5,6] (fun _ => by kernel_rfl) ?_
        intro _
        refine GS.seq ?_
        refine GS.cond (t := decide ((a : Int) < (a2.length : Int))) rfl rfl (fun _ => ?_) (fun N => absb (drop_dec A) N)
        refine GS.skip ?_
        refine GS.seq ?_
        refine GS.block ?_
        refine GS.seq ?_
        refine GS.rgM (fun _ => [(0,pA l 0),(1,vI a1),(8,vI (a : Int)),(9,.int .u8 (v.toNat : Int)),(26,.slice b a2.length u),(27,vI (a2.length : Int)),(28,vI (a : Int))]) [(1,{ act := .idx 4 a }),(2,{ act := .load 4 a 0 [.int .u8 (v.toNat : Int)] })] [0,1,8,9,26,27,28] [3,4,5,6] (fun _ => [b = b,a2.length = (List.map rB a2).length,((a : Int) : Int) = (a : Int),a < a2.length,blk b = blk b,offs b + a * 1 = offs b + (a * 1 + 0),(List.map rB a2)[a]? = some [.int .u8 (v.toNat : Int)]]) (fun _ => by kernel_rfl) (fun _ => ⟨rfl,mlen rB a2,rfl,(drop_lt A),rfl,rfl,map_drop rB A,trivial⟩) ?_
        intro _
        refine grd_elim hm (fun G hm => ?_)
        refine grd_elim hm (fun B hm => ?_)
        refine grd_elim hm (fun C hm => ?_)
        refine GS.region (env' := fun _ => [(0,pA l 0),(1,vI a1),(26,.slice b a2.length u),(27,vI (a2.length : Int)),(28,vI (a : Int))]) (mem' := fun _ => [(3,.cells l 48 [.slice n e.length r,.slice o f.length s]),(4,r5 b a2),(5,.osl n r 5 1 ((List.map rB e).set (Int.toNat (a1 + (a : Int))) [.int .u8 (v.toNat : Int)])),(6,.osl o s 4 1 ((List.map rBo f).set (Int.toNat (a1 + (a : Int))) [.bool true]))]) (RunsTo.mkd [(3,{ act := .load 3 0 0 [] }),(6,{ sp := some (vI (a1 + (a : Int))) }),(10,{ act := .load 3 0 0 [] }),(13,{ sp := some (vI (a1 + (a : Int))) }),(15,{ act := .idx 5 (Int.toNat (a1 + (a : Int))) }),(16,{ act := .store (Int.toNat (a1 + (a : Int))) 0 [.int .u8 (((e.getD (Int.toNat (a1 + (a : Int))) 0).toNat : Nat) : Int)],key := some 5 }),(17,{ act := .idx 6 (Int.toNat (a1 + (a : Int))) }),(18,{ act := .store (Int.toNat (a1 + (a : Int))) 0 [.bool (f.getD (Int.toNat (a1 + (a : Int))) false)],key := some 6 })] [0,1,26,27,28] [3,4,5,6] (fun _ => [l = l,oW (a1 + (a : Int)),l = l,oW (a1 + (a : Int)),n = n,e.length = (List.map rB e).length,((a1 + (a : Int)) : Int) = (((Int.toNat (a1 + (a : Int))) : Nat) : Int),(Int.toNat (a1 + (a : Int))) < e.length,blk n = blk n,offs n + (Int.toNat (a1 + (a : Int))) * 1 = offs n + ((Int.toNat (a1 + (a : Int))) * 1 + 0),(List.map rB e)[(Int.toNat (a1 + (a : Int)))]? = some [.int .u8 (((e.getD (Int.toNat (a1 + (a : Int))) 0).toNat : Nat) : Int)],oC (.int .u8 (v.toNat : Int)),o = o,f.length = (List.map rBo f).length,((a1 + (a : Int)) : Int) = (((Int.toNat (a1 + (a : Int))) : Nat) : Int),(Int.toNat (a1 + (a : Int))) < f.length,blk o = blk o,offs o + (Int.toNat (a1 + (a : Int))) * 1 = offs o + ((Int.toNat (a1 + (a : Int))) * 1 + 0),(List.map rBo f)[(Int.toNat (a1 + (a : Int)))]? = some [.bool (f.getD (Int.toNat (a1 + (a : Int))) false)],oC (.bool true)]) (by kernel_rfl) (by kernel_rfl) (fun _ => by kernel_rfl) (fun _ => ⟨rfl,I64.w G,rfl,I64.w G,rfl,mlen rB e,B.eq,B.2,rfl,rfl,map_at rB 0 B.2,rfl,rfl,mlen rBo f,C.eq,C.2,rfl,rfl,map_at rBo false C.2,rfl,trivial⟩)) ?_
        intro _
        refine GS.conv (mem' := [(3,.cells l 48 [.slice n e.length r,.slice o f.length s]),(4,r5 b a2),(5,o5 n r (e.set (Int.toNat (a1 + (a : Int))) v)),(6,.osl o s 4 1 ((List.map rBo f).set (Int.toNat (a1 + (a : Int))) [.bool true]))]) rfl (congrArg (fun rr : List (List Value) => ([(3,.cells l 48 [.slice n e.length r,.slice o f.length s]),(4,r5 b a2),(5,.osl n r 5 1 rr),(6,.osl o s 4 1 ((List.map rBo f).set (Int.toNat (a1 + (a : Int))) [.bool true]))] : List (Nat × Ent))) (show (List.map rB e).set (Int.toNat (a1 + (a : Int))) [.int .u8 (v.toNat : Int)] = List.map rB (e.set (Int.toNat (a1 + (a : Int))) v) from mset rB e (Int.toNat (a1 + (a : Int))) v)) ?_
        refine GS.conv (mem' := [(3,.cells l 48 [.slice n e.length r,.slice o f.length s]),(4,r5 b a2),(5,o5 n r (e.set (Int.toNat (a1 + (a : Int))) v)),(6,o4 o s (f.set (Int.toNat (a1 + (a : Int))) true))]) rfl (congrArg (fun rr : List (List Value) => ([(3,.cells l 48 [.slice n e.length r,.slice o f.length s]),(4,r5 b a2),(5,o5 n r (e.set (Int.toNat (a1 + (a : Int))) v)),(6,.osl o s 4 1 rr)] : List (Nat × Ent))) (show (List.map rBo f).set (Int.toNat (a1 + (a : Int))) [.bool true] = List.map rBo (f.set (Int.toNat (a1 + (a : Int))) true) from mset rBo f (Int.toNat (a1 + (a : Int))) true)) ?_
        refine GS.inBlock ?_
        refine GS.conv (mem' := [(3,.cells l 48 [.slice n ((e.set (Int.toNat (a1 + (a : Int))) v).length) r,.slice o ((f.set (Int.toNat (a1 + (a : Int))) true).length) s]),(4,r5 b a2),(5,o5 n r (e.set (Int.toNat (a1 + (a : Int))) v)),(6,o4 o s (f.set (Int.toNat (a1 + (a : Int))) true))]) rfl (congrArg (fun ehole : Ent => ([(3,ehole),(4,r5 b a2),(5,o5 n r (e.set (Int.toNat (a1 + (a : Int))) v)),(6,o4 o s (f.set (Int.toNat (a1 + (a : Int))) true))] : List (Nat × Ent))) (show ((.cells l 48 [.slice n e.length r,.slice o f.length s]) : Ent) = .cells l 48 [.slice n ((e.set (Int.toNat (a1 + (a : Int))) v).length) r,.slice o ((f.set (Int.toNat (a1 + (a : Int))) true).length) s] from (by simp []))) ?_
        refine GS.rgM (fun _ => [(0,pA l 0),(1,vI a1),(26,.slice b a2.length u),(27,vI (a2.length : Int)),(28,vI ((a + 1 : Nat) : Int))]) [(0,{ sp := some (vI ((a + 1 : Nat) : Int)) })] [0,1,26,27,28] [3,4,5,6] (fun _ => [((vI (IntKind.i64.wrap ((a : Int) + 1))) : Value) = vI ((a + 1 : Nat) : Int)]) (fun _ => by kernel_rfl) (fun _ => ⟨natw (drop_lt A) K,trivial⟩) ?_
        intro _
        refine GS.inLoop ?_
        refine GS.rekey (env' := [(0,pA l 0),(1,vI a1),(26,.slice b a2.length u),(27,vI (a2.length : Int)),(28,vI ((a + 1 : Nat) : Int))]) (mem' := [(3,.cells l 48 [.slice n ((e.set (Int.toNat (a1 + (a : Int))) v).length) r,.slice o ((f.set (Int.toNat (a1 + (a : Int))) true).length) s]),(4,r5 b a2),(5,o5 n r (e.set (Int.toNat (a1 + (a : Int))) v)),(6,o4 o s (f.set (Int.toNat (a1 + (a : Int))) true))]) [0,1,26,27,28] [(3,3),(4,4),(5,5),(6,6)] (by kernel_rfl) (by kernel_rfl) rfl ?_
        exact D ⟨x,a + 1,(e.set (Int.toNat (a1 + (a : Int))) v),(f.set (Int.toNat (a1 + (a : Int))) true)⟩ ⟨drop_next A,hm⟩ (Nat.lt_succ_self _)

theorem w___extent_Map__Zero (F : Nat) (d : Nat) (a : Hds) (b : List S_extent_run) (c : Int) (a1 : Int) (a2 : Int) {y : Int × List S_extent_run × Int} (hm : m___extent_Map__Zero F b c a1 a2 = some y) : CallG Try.prog 13 #[pA d 0,vI a1,vI a2] (X := Hds) (fun (x0 : Hds) => vI y.1) [bag (sgs 59 nX59 a none b),.cells d 56 [.bool true,.pointer (sgp a none b),vI c]] [Ent.all (nins nJ59 a b)] (fun (x0 : Hds) => [bag (sgs 59 nX59 x0 none y.2.1),Ent.all (nins nJ59 x0 y.2.1),.cells d 56 [.bool true,.pointer (sgp x0 none y.2.1),vI y.2.2]]) := by
  intro w hg
  rw [m___extent_Map__Zero] at hm
  refine GS.start (S := mayT [bag (sgs 59 nX59 a none b),.cells d 56 [.bool true,.pointer (sgp a none b),vI c]] [Ent.all (nins nJ59 a b)]) (mem := [(1,bag (sgs 59 nX59 a none b)),(2,.cells d 56 [.bool true,.pointer (sgp a none b),vI c]),(3,Ent.all (nins nJ59 a b))]) Try.func13 rfl Try.ntmps13 (Nat.le_of_ble_eq_true rfl) (hg.start rfl) ?_
  refine GS.conv (env' := [(0,pA d 0),(1,vI a1),(2,vI a2)]) rfl rfl ?_
  refine GS.seq ?_
  refine GS.rzM (fun _ => [(0,pA d 0),(1,vI a1),(2,vI a2)]) [] [0,1,2] [1,2,3] (fun _ => by kernel_rfl) ?_
  intro _
  refine GS.seq ?_
  refine GS.seq ?_
  refine bnd_elim hm (fun y3 e4 hm => ?_)
  refine GS.rgM (fun _ => [(0,pA d 0),(1,vI a1),(2,vI a2),(7,vI y3)]) [(3,{ act := .call [2] (vI y3) })] [0,1,2,7] [1,2,3] (fun _ => [CallOK Try.prog 22 #[pA d 0,vI a1,vI a2] (vI y3) [some (.cells d 56 [.bool true,.pointer (sgp a none b),vI c])]]) (fun _ => by kernel_rfl) (fun _ => ⟨(by have h1 := w___extent_Map__may F d (.pointer (sgp a none b)) c a1 a2 e4; exact h1.ok ⟨(.inl ⟨.cells d 56 [.bool true,.pointer (sgp a none b),vI c],.head _,Cov.cells_rd⟩),trivial⟩),trivial⟩) ?_
  intro _
  refine GS.seq ?_
  refine jn_elim hm (fun J7 m hm => ?_)
  refine GS.cut (ι := Bool) (I := fun (e : Bool) => J7 e = some y) (E := fun (e : Bool) => [(0,pA d 0),(1,vI a1),(2,vI a2),(7,vI y3),(17,.bool e)]) (M := fun (e : Bool) => [(1,bag (sgs 59 nX59 a none b)),(2,.cells d 56 [.bool true,.pointer (sgp a none b),vI c]),(3,Ent.all (nins nJ59 a b))]) ?_ ?_
  rotate_left
  · intro H8
    refine br_elim hm (fun h6 hm => ?_) (fun h6 hm => ?_)
    · skip
      refine GS.rgM (fun _ => [(0,pA d 0),(1,vI a1),(2,vI a2),(7,vI y3),(17,.bool true)]) [(2,{ sp := some (.bool true) })] [0,1,2,7,17] [1,2,3] (fun _ => [((.bool (y3 != 0)) : Value) = .bool true]) (fun _ => by kernel_rfl) (fun _ => ⟨bool_eq h6,trivial⟩) ?_
      intro _
      refine GS.rekey (env' := [(0,pA d 0),(1,vI a1),(2,vI a2),(7,vI y3),(17,.bool true)]) (mem' := [(1,bag (sgs 59 nX59 a none b)),(2,.cells d 56 [.bool true,.pointer (sgp a none b),vI c]),(3,Ent.all (nins nJ59 a b))]) [0,1,2,7,17] [(1,1),(2,2),(3,3)] (by kernel_rfl) (by kernel_rfl) rfl ?_
      exact H8 true hm
    · skip
      refine GS.rgM (fun _ => [(0,pA d 0),(1,vI a1),(2,vI a2),(7,vI y3),(17,.bool (a2 == 0))]) [(2,{ sp := some (.bool false) })] [0,1,2,7,17] [1,2,3] (fun _ => [((.bool (y3 != 0)) : Value) = .bool false]) (fun _ => by kernel_rfl) (fun _ => ⟨bool_eq h6,trivial⟩) ?_
      intro _
      refine GS.rekey (env' := [(0,pA d 0),(1,vI a1),(2,vI a2),(7,vI y3),(17,.bool (a2 == 0))]) (mem' := [(1,bag (sgs 59 nX59 a none b)),(2,.cells d 56 [.bool true,.pointer (sgp a none b),vI c]),(3,Ent.all (nins nJ59 a b))]) [0,1,2,7,17] [(1,1),(2,2),(3,3)] (by kernel_rfl) (by kernel_rfl) rfl ?_
      exact H8 (a2 == 0) hm
  · rintro e hm
    replace hm := (m _).symm.trans hm
    try dsimp only at hm
    refine GS.cond (t := e) rfl rfl (fun k => ?_) (fun k => ?_)
    · replace hm := br_t k hm
      refine GS.seq ?_
      refine GS.rzM (fun _ => [(6,vI y3)]) [] [6] [1,2,3] (fun _ => by kernel_rfl) ?_
      intro _
      have hy := Option.some.inj hm
      subst hy
      refine GS.ret (fn := Try.f13) [0] [vI y3] [] rfl Try.func13 (by kernel_rfl) trivial (fun w' hs => ?_)
      exact ⟨a,rfl,hs.turnedG (ks := [1,3,2]) rfl rfl⟩
    · replace hm := br_f k hm
      refine GS.skip ?_
      refine GS.seq ?_
      refine grd_elim hm (fun l hm => ?_)
      refine bnd_elim hm (fun f n hm => ?_)
      refine GS.open_ ?_
      refine GR.rM (i := 0) 5 (env' := fun _ => [(0,pA d 0),(1,vI a1),(2,vI a2),(19,pA d 0),(20,vI a1),(23,vI (a1 + a2))]) (by kernel_rfl) (RunsTo.mk [(4,{ sp := some (vI (a1 + a2)) })] [0,1,2,19,20,23] [1,2,3] (fun _ => [oW (a1 + a2)]) (fun _ => by kernel_rfl) (fun _ => ⟨I64.w l,trivial⟩)) ?_
      intro _
      refine GR.callG (X := Hds) (i := 5) (g := 23) (ro := [Ent.all (nins nJ59 a b)]) (mem' := fun (j : Hds) => [(2,.cells d 56 [.bool true,.pointer (sgp j none f.1),vI f.2]),(3,Ent.all (nins nJ59 a b)),(4,bag (sgs 59 nX59 j none f.1)),(5,Ent.all (nins nJ59 j f.1))]) (env' := fun (j : Hds) => [(0,pA d 0),(1,vI a1),(2,vI a2)]) [1,2] [4,5,2] [0,1,2] [2,3,4,5] true (by kernel_rfl) (by kernel_rfl) (by kernel_rfl) (by kernel_rfl) (by kernel_rfl) (fun _ => rfl) (fun h => by cases h) ⟨(.inl ⟨3,_,rfl,rfl,Cov.refl _,fun _ => rfl⟩),trivial⟩ (by rintro j; kernel_rfl) (by rintro j; kernel_rfl) (w___extent_Map__clear F d a b c a1 (a1 + a2) n) ?_
      rintro j
      refine GR.dn (by kernel_rfl) ?_
      refine GS.seq ?_
      refine GS.rg (fun _ => []) (fun _ => [(2,.cells d 56 [.bool true,.pointer (sgp j none f.1),vI (if (a1 + a2) > f.2 then (a1 + a2) else f.2)]),(4,bag (sgs 59 nX59 j none f.1)),(5,Ent.all (nins nJ59 j f.1))]) [(4,{ act := .load 2 0 0 [] }),(7,{ sp := some (vI (a1 + a2)) }),(11,{ act := .store 0 0 [],key := some 2 })] [] [2,4,5] (fun _ => [d = d,oW (a1 + a2),d = d,oC (vI (if (a1 + a2) > f.2 then (a1 + a2) else f.2))]) (fun _ => by kernel_rfl) (fun _ => ⟨rfl,I64.w l,rfl,rfl,trivial⟩) ?_
      intro _
      refine GS.seq ?_
      refine GS.rzM (fun _ => [(6,vI 0)]) [] [6] [2,4,5] (fun _ => by kernel_rfl) ?_
      intro _
      have hy := Option.some.inj hm
      subst hy
      refine GS.ret (fn := Try.f13) [0] [vI 0] [] rfl Try.func13 (by kernel_rfl) trivial (fun w' hs => ?_)
      exact ⟨j,rfl,hs.turnedG (ks := [4,5,2]) rfl rfl⟩

theorem w___tholeref05_Map__Zero (F : Nat) (f : Nat) (d : Option Addr) (e : Nat) (q : List UInt8) (j : Option Addr) (k : Nat) (r : List Bool) (a1 : Int) (a2 : Int) {y : Int × List UInt8 × List Bool} (hm : m___tholeref05_Map__Zero F q r a1 a2 = some y) : CallG Try.prog 30 #[pA f 0,vI a1,vI a2] (X := Option Addr × Nat × Option Addr × Nat) (fun ⟨x0,x1,x2,x3⟩ => vI y.1) [o5 d e q,o4 j k r,.cells f 48 [.slice d q.length e,.slice j r.length k]] [] (fun ⟨x0,x1,x2,x3⟩ => [o5 x0 x1 y.2.1,o4 x2 x3 y.2.2,.cells f 48 [.slice x0 y.2.1.length x1,.slice x2 y.2.2.length x3]]) := by
  intro w hg
  rw [m___tholeref05_Map__Zero] at hm
  refine GS.start (S := mayT [o5 d e q,o4 j k r,.cells f 48 [.slice d q.length e,.slice j r.length k]] []) (mem := [(1,o5 d e q),(2,o4 j k r),(3,.cells f 48 [.slice d q.length e,.slice j r.length k])]) Try.func30 rfl Try.ntmps30 (Nat.le_of_ble_eq_true rfl) (hg.start rfl) ?_
  refine GS.conv (env' := [(0,pA f 0),(1,vI a1),(2,vI a2)]) rfl rfl ?_
  refine GS.seq ?_
  refine GS.rzM (fun _ => [(0,pA f 0),(1,vI a1),(2,vI a2)]) [] [0,1,2] [1,2,3] (fun _ => by kernel_rfl) ?_
  intro _
  refine GS.seq ?_
  refine GS.seq ?_
  refine bnd_elim hm (fun y3 e4 hm => ?_)
  refine GS.rgM (fun _ => [(0,pA f 0),(1,vI a1),(2,vI a2),(7,vI y3)]) [(2,{ act := .call [] (vI y3) })] [0,1,2,7] [1,2,3] (fun _ => [CallOK Try.prog 35 #[vI a1,vI a2] (vI y3) []]) (fun _ => by kernel_rfl) (fun _ => ⟨(by have h1 := w_tholeref05_fits F a1 a2 e4; exact h1.ok trivial),trivial⟩) ?_
  intro _
  refine GS.seq ?_
  refine GS.rzM (fun _ => [(0,pA f 0),(1,vI a1),(2,vI a2),(7,vI y3),(13,.bool (y3 != 0))]) [] [0,1,2,7,13] [1,2,3] (fun _ => by kernel_rfl) ?_
  intro _
  refine GS.cond (t := y3 != 0) rfl rfl (fun h6 => ?_) (fun h6 => ?_)
  · replace hm := br_t h6 hm
    refine GS.seq ?_
    refine GS.rzM (fun _ => [(6,vI y3)]) [] [6] [1,2,3] (fun _ => by kernel_rfl) ?_
    intro _
    have hy := Option.some.inj hm
    subst hy
    refine GS.ret (fn := Try.f30) [0] [vI y3] [] rfl Try.func30 (by kernel_rfl) trivial (fun w' hs => ?_)
    exact ⟨⟨d,e,j,k⟩,rfl,hs.turnedG (ks := [1,2,3]) rfl rfl⟩
  · replace hm := br_f h6 hm
    refine GS.skip ?_
    refine GS.seq ?_
    refine GS.seq ?_
    refine GS.rzM (fun _ => [(0,pA f 0),(1,vI a1),(2,vI a2),(16,.bool (a2 == 0))]) [] [0,1,2,16] [1,2,3] (fun _ => by kernel_rfl) ?_
    intro _
    refine GS.cond (t := a2 == 0) rfl rfl (fun h9 => ?_) (fun h9 => ?_)
    · replace hm := br_t h9 hm
      refine GS.seq ?_
      refine GS.rzM (fun _ => [(6,vI 0)]) [] [6] [1,2,3] (fun _ => by kernel_rfl) ?_
      intro _
      have hy := Option.some.inj hm
      subst hy
      refine GS.ret (fn := Try.f30) [0] [vI 0] [] rfl Try.func30 (by kernel_rfl) trivial (fun w' hs => ?_)
      exact ⟨⟨d,e,j,k⟩,rfl,hs.turnedG (ks := [1,2,3]) rfl rfl⟩
    · replace hm := br_f h9 hm
      refine GS.skip ?_
      refine GS.seq ?_
      refine grd_elim hm (fun A hm => ?_)
      refine bnd_elim hm (fun u C hm => ?_)
      refine GS.open_ ?_
      refine GR.rM (i := 0) 4 (env' := fun _ => [(0,pA f 0),(1,vI a1),(2,vI a2),(17,pA f 0),(20,vI (a1 + a2))]) (by kernel_rfl) (RunsTo.mk [(3,{ sp := some (vI (a1 + a2)) })] [0,1,2,17,20] [1,2,3] (fun _ => [oW (a1 + a2)]) (fun _ => by kernel_rfl) (fun _ => ⟨I64.w A,trivial⟩)) ?_
      intro _
      refine GR.callG (X := Option Addr × Nat × Option Addr × Nat) (i := 4) (g := 36) (ro := []) (mem' := fun ⟨l,n,m,o⟩ => [(3,.cells f 48 [.slice l u.1.length n,.slice m u.2.length o]),(4,o5 l n u.1),(5,o4 m o u.2)]) (env' := fun ⟨l,n,m,o⟩ => [(0,pA f 0),(1,vI a1),(2,vI a2)]) [1,2,3] [4,5,3] [0,1,2] [3,4,5] false (by kernel_rfl) (by kernel_rfl) (by kernel_rfl) (by kernel_rfl) (by kernel_rfl) (fun _ => rfl) (fun _ _ => rfl) trivial (by rintro ⟨l,n,m,o⟩; kernel_rfl) (by rintro ⟨l,n,m,o⟩; kernel_rfl) (w___tholeref05_Map__grow F f d e q j k r (a1 + a2) C) ?_
      rintro ⟨l,n,m,o⟩
      refine GR.dn (by kernel_rfl) ?_
      refine GS.seq ?_
      refine GS.seq ?_
      refine GS.rzM (fun _ => [(0,pA f 0),(1,vI a1),(2,vI a2),(8,vI a1)]) [] [0,1,2,8] [3,4,5] (fun _ => by kernel_rfl) ?_
      intro _
      refine GS.block ?_
      refine GS.loop ?_
      refine GS.know (p := u.1.length ≤ n) (fun w hw => by first | (have h := (hw.ok 4 _ rfl).1.1; rw [List.length_map] at h; exact h) | (have h := (hw.ok 4 _ rfl).1.1; rw [nrows_len] at h; exact h) | simpa using (hw.ok 4 _ rfl).1.1) (fun G => ?_)
      refine GS.know (p := u.2.length ≤ o) (fun w hw => by first | (have h := (hw.ok 5 _ rfl).1.1; rw [List.length_map] at h; exact h) | (have h := (hw.ok 5 _ rfl).1.1; rw [nrows_len] at h; exact h) | simpa using (hw.ok 5 _ rfl).1.1) (fun H => ?_)
      refine GS.rekey (env' := [(0,pA f 0),(1,vI a1),(2,vI a2),(8,vI a1)]) (mem' := [(3,.cells f 48 [.slice l u.1.length n,.slice m u.2.length o]),(4,o5 l n u.1),(5,o4 m o u.2)]) [0,1,2,8] [(3,3),(4,4),(5,5)] (by kernel_rfl) (by kernel_rfl) rfl ?_
      refine loopW_elim hm (fun st48 hst50 hm => ?_)
      refine GS.loopInv (ι := Nat × Int × List UInt8 × List Bool) (I := fun ⟨s,a,b,c⟩ => loopW st48 s (a,b,c) = some y) (μ := fun ⟨s,a,b,c⟩ => s) (E := fun ⟨s,a,b,c⟩ => [(0,pA f 0),(1,vI a1),(2,vI a2),(8,vI a)]) (M := fun ⟨s,a,b,c⟩ => [(3,.cells f 48 [.slice l b.length n,.slice m c.length o]),(4,o5 l n b),(5,o4 m o c)]) ?_ ⟨F,a1,u.1,u.2⟩ hm
      rintro ⟨s,a,b,c⟩ hm B
      cases s with
      | zero => cases hm
      | succ s =>
        replace hm := (hst50 _ _).symm.trans hm
        try dsimp only at hm
        refine GS.seq ?_
        refine GS.seq ?_
        refine GS.rgM (fun _ => [(0,pA f 0),(1,vI a1),(2,vI a2),(8,vI a),(27,.bool (decide (a < (a1 + a2))))]) [(3,{ sp := some (vI (a1 + a2)) })] [0,1,2,8,27] [3,4,5] (fun _ => [oW (a1 + a2)]) (fun _ => by kernel_rfl) (fun _ => ⟨I64.w A,trivial⟩) ?_
        intro _
        refine GS.cond (t := decide (a < (a1 + a2))) rfl rfl (fun v => ?_) (fun v => ?_)
        · replace hm := br_t v hm
          refine GS.skip ?_
          refine GS.seq ?_
          refine GS.block ?_
          refine grd_elim hm (fun x hm => ?_)
          refine grd_elim hm (fun z hm => ?_)
          refine GS.region (env' := fun _ => [(0,pA f 0),(1,vI a1),(2,vI a2),(8,vI a)]) (mem' := fun _ => [(3,.cells f 48 [.slice l b.length n,.slice m c.length o]),(4,.osl l n 5 1 ((List.map rB b).set (Int.toNat a) [.int .u8 0])),(5,.osl m o 4 1 ((List.map rBo c).set (Int.toNat a) [.bool false]))]) (RunsTo.mkd [(3,{ act := .load 3 0 0 [] }),(8,{ act := .load 3 0 0 [] }),(10,{ act := .idx 4 (Int.toNat a) }),(11,{ act := .store (Int.toNat a) 0 [.int .u8 (((b.getD (Int.toNat a) 0).toNat : Nat) : Int)],key := some 4 }),(12,{ act := .idx 5 (Int.toNat a) }),(13,{ act := .store (Int.toNat a) 0 [.bool (c.getD (Int.toNat a) false)],key := some 5 })] [0,1,2,8] [3,4,5] (fun _ => [f = f,f = f,l = l,b.length = (List.map rB b).length,(a : Int) = (((Int.toNat a) : Nat) : Int),(Int.toNat a) < b.length,blk l = blk l,offs l + (Int.toNat a) * 1 = offs l + ((Int.toNat a) * 1 + 0),(List.map rB b)[(Int.toNat a)]? = some [.int .u8 (((b.getD (Int.toNat a) 0).toNat : Nat) : Int)],oC (.int .u8 0),m = m,c.length = (List.map rBo c).length,(a : Int) = (((Int.toNat a) : Nat) : Int),(Int.toNat a) < c.length,blk m = blk m,offs m + (Int.toNat a) * 1 = offs m + ((Int.toNat a) * 1 + 0),(List.map rBo c)[(Int.toNat a)]? = some [.bool (c.getD (Int.toNat a) false)],oC (.bool false)]) (by kernel_rfl) (by kernel_rfl) (fun _ => by kernel_rfl) (fun _ => ⟨rfl,rfl,rfl,mlen rB b,x.eq,x.2,rfl,rfl,map_at rB 0 x.2,rfl,rfl,mlen rBo c,z.eq,z.2,rfl,rfl,map_at rBo false z.2,rfl,trivial⟩)) ?_
          intro _
          refine GS.conv (mem' := [(3,.cells f 48 [.slice l b.length n,.slice m c.length o]),(4,o5 l n (b.set (Int.toNat a) (0 : UInt8))),(5,.osl m o 4 1 ((List.map rBo c).set (Int.toNat a) [.bool false]))]) rfl (congrArg (fun rr : List (List Value) => ([(3,.cells f 48 [.slice l b.length n,.slice m c.length o]),(4,.osl l n 5 1 rr),(5,.osl m o 4 1 ((List.map rBo c).set (Int.toNat a) [.bool false]))] : List (Nat × Ent))) (show (List.map rB b).set (Int.toNat a) [.int .u8 0] = List.map rB (b.set (Int.toNat a) (0 : UInt8)) from mset rB b (Int.toNat a) (0 : UInt8))) ?_
          refine GS.conv (mem' := [(3,.cells f 48 [.slice l b.length n,.slice m c.length o]),(4,o5 l n (b.set (Int.toNat a) (0 : UInt8))),(5,o4 m o (c.set (Int.toNat a) false))]) rfl (congrArg (fun rr : List (List Value) => ([(3,.cells f 48 [.slice l b.length n,.slice m c.length o]),(4,o5 l n (b.set (Int.toNat a) (0 : UInt8))),(5,.osl m o 4 1 rr)] : List (Nat × Ent))) (show (List.map rBo c).set (Int.toNat a) [.bool false] = List.map rBo (c.set (Int.toNat a) false) from mset rBo c (Int.toNat a) false)) ?_
          refine GS.inBlock ?_
          refine GS.conv (mem' := [(3,.cells f 48 [.slice l ((b.set (Int.toNat a) (0 : UInt8)).length) n,.slice m ((c.set (Int.toNat a) false).length) o]),(4,o5 l n (b.set (Int.toNat a) (0 : UInt8))),(5,o4 m o (c.set (Int.toNat a) false))]) rfl (congrArg (fun ehole : Ent => ([(3,ehole),(4,o5 l n (b.set (Int.toNat a) (0 : UInt8))),(5,o4 m o (c.set (Int.toNat a) false))] : List (Nat × Ent))) (show ((.cells f 48 [.slice l b.length n,.slice m c.length o]) : Ent) = .cells f 48 [.slice l ((b.set (Int.toNat a) (0 : UInt8)).length) n,.slice m ((c.set (Int.toNat a) false).length) o] from (by simp []))) ?_
          refine grd_elim hm (fun D hm => ?_)
          refine GS.rgM (fun _ => [(0,pA f 0),(1,vI a1),(2,vI a2),(8,vI (a + 1))]) [(1,{ sp := some (vI (a + 1)) })] [0,1,2,8] [3,4,5] (fun _ => [oW (a + 1)]) (fun _ => by kernel_rfl) (fun _ => ⟨I64.w D,trivial⟩) ?_
          intro _
          refine GS.inLoop ?_
          refine GS.rekey (env' := [(0,pA f 0),(1,vI a1),(2,vI a2),(8,vI (a + 1))]) (mem' := [(3,.cells f 48 [.slice l ((b.set (Int.toNat a) (0 : UInt8)).length) n,.slice m ((c.set (Int.toNat a) false).length) o]),(4,o5 l n (b.set (Int.toNat a) (0 : UInt8))),(5,o4 m o (c.set (Int.toNat a) false))]) [0,1,2,8] [(3,3),(4,4),(5,5)] (by kernel_rfl) (by kernel_rfl) rfl ?_
          exact B ⟨s,(a + 1),(b.set (Int.toNat a) (0 : UInt8)),(c.set (Int.toNat a) false)⟩ hm (Nat.lt_succ_self _)
        · replace hm := br_f v hm
          refine GS.exit rfl ?_
          refine GS.seq ?_
          refine GS.rzM (fun _ => [(6,vI 0)]) [] [6] [3,4,5] (fun _ => by kernel_rfl) ?_
          intro _
          have hy := Option.some.inj hm
          subst hy
          refine GS.ret (fn := Try.f30) [0] [vI 0] [] rfl Try.func30 (by kernel_rfl) trivial (fun w' hs => ?_)
          exact ⟨⟨l,n,m,o⟩,rfl,hs.turnedG (ks := [4,5,3]) rfl rfl⟩

theorem w___extent_Map__Truncate (F : Nat) (d : Nat) (a : Hds) (b : List S_extent_run) (c : Int) (a1 : Int) {y : Int × List S_extent_run × Int} (hm : m___extent_Map__Truncate F b c a1 = some y) : CallG Try.prog 14 #[pA d 0,vI a1] (X := Hds) (fun (x0 : Hds) => vI y.1) [bag (sgs 59 nX59 a none b),.cells d 56 [.bool true,.pointer (sgp a none b),vI c]] [Ent.all (nins nJ59 a b)] (fun (x0 : Hds) => [bag (sgs 59 nX59 x0 none y.2.1),Ent.all (nins nJ59 x0 y.2.1),.cells d 56 [.bool true,.pointer (sgp x0 none y.2.1),vI y.2.2]]) := by
  intro w hg
  rw [m___extent_Map__Truncate] at hm
  refine GS.start (S := mayT [bag (sgs 59 nX59 a none b),.cells d 56 [.bool true,.pointer (sgp a none b),vI c]] [Ent.all (nins nJ59 a b)]) (mem := [(1,bag (sgs 59 nX59 a none b)),(2,.cells d 56 [.bool true,.pointer (sgp a none b),vI c]),(3,Ent.all (nins nJ59 a b))]) Try.func14 rfl Try.ntmps14 (Nat.le_of_ble_eq_true rfl) (hg.start rfl) ?_
  refine GS.conv (env' := [(0,pA d 0),(1,vI a1)]) rfl rfl ?_
  refine GS.seq ?_
  refine GS.rzM (fun _ => [(0,pA d 0),(1,vI a1)]) [] [0,1] [1,2,3] (fun _ => by kernel_rfl) ?_
  intro _
  refine GS.seq ?_
  refine GS.seq ?_
  refine bnd_elim hm (fun y3 e4 hm => ?_)
  refine GS.rgM (fun _ => [(0,pA d 0),(1,vI a1),(5,vI y3)]) [(2,{ act := .call [2] (vI y3) })] [0,1,5] [1,2,3] (fun _ => [CallOK Try.prog 22 #[pA d 0,vI 0,vI a1] (vI y3) [some (.cells d 56 [.bool true,.pointer (sgp a none b),vI c])]]) (fun _ => by kernel_rfl) (fun _ => ⟨(by have h1 := w___extent_Map__may F d (.pointer (sgp a none b)) c 0 a1 e4; exact h1.ok ⟨(.inl ⟨.cells d 56 [.bool true,.pointer (sgp a none b),vI c],.head _,Cov.cells_rd⟩),trivial⟩),trivial⟩) ?_
  intro _
  refine GS.seq ?_
  refine GS.rzM (fun _ => [(0,pA d 0),(1,vI a1),(5,vI y3),(10,.bool (y3 != 0))]) [] [0,1,5,10] [1,2,3] (fun _ => by kernel_rfl) ?_
  intro _
  refine GS.cond (t := y3 != 0) rfl rfl (fun h6 => ?_) (fun h6 => ?_)
  · replace hm := br_t h6 hm
    refine GS.seq ?_
    refine GS.rzM (fun _ => [(4,vI y3)]) [] [4] [1,2,3] (fun _ => by kernel_rfl) ?_
    intro _
    have hy := Option.some.inj hm
    subst hy
    refine GS.ret (fn := Try.f14) [0] [vI y3] [] rfl Try.func14 (by kernel_rfl) trivial (fun w' hs => ?_)
    exact ⟨a,rfl,hs.turnedG (ks := [1,3,2]) rfl rfl⟩
  · replace hm := br_f h6 hm
    refine GS.skip ?_
    refine GS.seq ?_
    refine bnd_elim hm (fun y9 f hm => ?_)
    refine GS.open_ ?_
    refine GR.rM (i := 0) 2 (env' := fun _ => [(0,pA d 0),(1,vI a1),(12,pA d 0),(13,vI a1)]) (by kernel_rfl) (RunsTo.mk [] [0,1,12,13] [1,2,3] (fun _ => []) (fun _ => by kernel_rfl) (fun _ => trivial)) ?_
    intro _
    refine GR.callG (X := Hds) (i := 2) (g := 23) (ro := [Ent.all (nins nJ59 a b)]) (mem' := fun (e : Hds) => [(2,.cells d 56 [.bool true,.pointer (sgp e none y9.1),vI y9.2]),(3,Ent.all (nins nJ59 a b)),(4,bag (sgs 59 nX59 e none y9.1)),(5,Ent.all (nins nJ59 e y9.1))]) (env' := fun (e : Hds) => [(0,pA d 0),(1,vI a1)]) [1,2] [4,5,2] [0,1] [2,3,4,5] true (by kernel_rfl) (by kernel_rfl) (by kernel_rfl) (by kernel_rfl) (by kernel_rfl) (fun _ => rfl) (fun h => by cases h) ⟨(.inl ⟨3,_,rfl,rfl,Cov.refl _,fun _ => rfl⟩),trivial⟩ (by rintro e; kernel_rfl) (by rintro e; kernel_rfl) (w___extent_Map__clear F d a b c a1 4097 f) ?_
    rintro e
    refine GR.dn (by kernel_rfl) ?_
    refine GS.seq ?_
    refine GS.rg (fun _ => []) (fun _ => [(2,.cells d 56 [.bool true,.pointer (sgp e none y9.1),vI a1]),(4,bag (sgs 59 nX59 e none y9.1)),(5,Ent.all (nins nJ59 e y9.1))]) [(4,{ act := .store 0 0 [],key := some 2 })] [] [2,4,5] (fun _ => [d = d,oC (vI a1)]) (fun _ => by kernel_rfl) (fun _ => ⟨rfl,rfl,trivial⟩) ?_
    intro _
    refine GS.seq ?_
    refine GS.rzM (fun _ => [(4,vI 0)]) [] [4] [2,4,5] (fun _ => by kernel_rfl) ?_
    intro _
    have hy := Option.some.inj hm
    subst hy
    refine GS.ret (fn := Try.f14) [0] [vI 0] [] rfl Try.func14 (by kernel_rfl) trivial (fun w' hs => ?_)
    exact ⟨e,rfl,hs.turnedG (ks := [4,5,2]) rfl rfl⟩

theorem w___tholeref05_Map__Truncate (F : Nat) (k : Nat) (d : Option Addr) (e : Nat) (l : List UInt8) (f : Option Addr) (j : Nat) (o : List Bool) (a1 : Int) {y : Int × List UInt8 × List Bool} (hm : m___tholeref05_Map__Truncate F l o a1 = some y) : CallG Try.prog 31 #[pA k 0,vI a1] (X := Option Addr × Nat × Option Addr × Nat) (fun ⟨x0,x1,x2,x3⟩ => vI y.1) [o5 d e l,o4 f j o,.cells k 48 [.slice d l.length e,.slice f o.length j]] [] (fun ⟨x0,x1,x2,x3⟩ => [o5 x0 x1 y.2.1,o4 x2 x3 y.2.2,.cells k 48 [.slice x0 y.2.1.length x1,.slice x2 y.2.2.length x3]]) := by
  intro w hg
  rw [m___tholeref05_Map__Truncate] at hm
  refine GS.start (S := mayT [o5 d e l,o4 f j o,.cells k 48 [.slice d l.length e,.slice f o.length j]] []) (mem := [(1,o5 d e l),(2,o4 f j o),(3,.cells k 48 [.slice d l.length e,.slice f o.length j])]) Try.func31 rfl Try.ntmps31 (Nat.le_of_ble_eq_true rfl) (hg.start rfl) ?_
  refine GS.conv (env' := [(0,pA k 0),(1,vI a1)]) rfl rfl ?_
  refine GS.seq ?_
  refine GS.rzM (fun _ => [(0,pA k 0),(1,vI a1)]) [] [0,1] [1,2,3] (fun _ => by kernel_rfl) ?_
  intro _
  refine GS.seq ?_
  refine GS.seq ?_
  refine bnd_elim hm (fun y3 e4 hm => ?_)
  refine GS.rgM (fun _ => [(0,pA k 0),(1,vI a1),(5,vI y3)]) [(1,{ act := .call [] (vI y3) })] [0,1,5] [1,2,3] (fun _ => [CallOK Try.prog 35 #[vI 0,vI a1] (vI y3) []]) (fun _ => by kernel_rfl) (fun _ => ⟨(by have h1 := w_tholeref05_fits F 0 a1 e4; exact h1.ok trivial),trivial⟩) ?_
  intro _
  refine GS.seq ?_
  refine GS.rzM (fun _ => [(0,pA k 0),(1,vI a1),(5,vI y3),(9,.bool (y3 != 0))]) [] [0,1,5,9] [1,2,3] (fun _ => by kernel_rfl) ?_
  intro _
  refine GS.cond (t := y3 != 0) rfl rfl (fun h6 => ?_) (fun h6 => ?_)
  · replace hm := br_t h6 hm
    refine GS.seq ?_
    refine GS.rzM (fun _ => [(4,vI y3)]) [] [4] [1,2,3] (fun _ => by kernel_rfl) ?_
    intro _
    have hy := Option.some.inj hm
    subst hy
    refine GS.ret (fn := Try.f31) [0] [vI y3] [] rfl Try.func31 (by kernel_rfl) trivial (fun w' hs => ?_)
    exact ⟨⟨d,e,f,j⟩,rfl,hs.turnedG (ks := [1,2,3]) rfl rfl⟩
  · replace hm := br_f h6 hm
    refine GS.skip ?_
    refine GS.seq ?_
    refine bnd_elim hm (fun y9 v hm => ?_)
    refine GS.open_ ?_
    refine GR.rM (i := 0) 2 (env' := fun _ => [(0,pA k 0),(1,vI a1),(11,pA k 0),(12,vI a1)]) (by kernel_rfl) (RunsTo.mk [] [0,1,11,12] [1,2,3] (fun _ => []) (fun _ => by kernel_rfl) (fun _ => trivial)) ?_
    intro _
    refine GR.callG (X := Option Addr × Nat × Option Addr × Nat) (i := 2) (g := 36) (ro := []) (mem' := fun ⟨m,b,n,c⟩ => [(3,.cells k 48 [.slice m y9.1.length b,.slice n y9.2.length c]),(4,o5 m b y9.1),(5,o4 n c y9.2)]) (env' := fun ⟨m,b,n,c⟩ => [(0,pA k 0),(1,vI a1)]) [1,2,3] [4,5,3] [0,1] [3,4,5] false (by kernel_rfl) (by kernel_rfl) (by kernel_rfl) (by kernel_rfl) (by kernel_rfl) (fun _ => rfl) (fun _ _ => rfl) trivial (by rintro ⟨m,b,n,c⟩; kernel_rfl) (by rintro ⟨m,b,n,c⟩; kernel_rfl) (w___tholeref05_Map__grow F k d e l f j o a1 v) ?_
    rintro ⟨m,b,n,c⟩
    refine GR.dn (by kernel_rfl) ?_
    refine GS.seq ?_
    refine grd_elim hm (fun q hm => ?_)
    refine GS.know (p := y9.1.length ≤ b) (fun w hw => by first | (have h := (hw.ok 4 _ rfl).1.1; rw [List.length_map] at h; exact h) | (have h := (hw.ok 4 _ rfl).1.1; rw [nrows_len] at h; exact h) | simpa using (hw.ok 4 _ rfl).1.1) (fun s => ?_)
    refine grd_elim hm (fun r hm => ?_)
    refine GS.know (p := y9.2.length ≤ c) (fun w hw => by first | (have h := (hw.ok 5 _ rfl).1.1; rw [List.length_map] at h; exact h) | (have h := (hw.ok 5 _ rfl).1.1; rw [nrows_len] at h; exact h) | simpa using (hw.ok 5 _ rfl).1.1) (fun u => ?_)
    refine GS.region (env' := fun _ => []) (mem' := fun _ => [(3,.cells k 48 [.slice (cutOb m 0 b 1) ((y9.1.take (Int.toNat a1)).length) (b - 0),.slice (cutOb n 0 c 1) ((y9.2.take (Int.toNat a1)).length) (c - 0)]),(4,o5 m b y9.1),(5,o4 n c y9.2)]) (RunsTo.mkd [(5,{ act := .load 3 0 0 [] }),(7,{ act := .cut 0 (Int.toNat a1) b,sp := some (.slice (cutOb m 0 b 1) ((y9.1.take (Int.toNat a1)).length) (b - 0)) }),(11,{ act := .load 3 0 0 [] }),(13,{ act := .cut 0 (Int.toNat a1) c,sp := some (.slice (cutOb n 0 c 1) ((y9.2.take (Int.toNat a1)).length) (c - 0)) }),(16,{ act := .store 0 0 [],key := some 3 }),(19,{ act := .store 0 0 [],key := some 3 })] [] [3,4,5] (fun _ => [k = k,0 = 0,a1 = (((Int.toNat a1) : Nat) : Int),b = b,0 ≤ (Int.toNat a1),(Int.toNat a1) ≤ b,b ≤ b,(some (Operand.tmp 20) : Option Operand) = none → (none : Option Operand) = none,((.slice (if b = 0 then m else (m).map (fun a => a.add (0 * 1))) ((Int.toNat a1) - 0) (b - 0)) : Value) = .slice (cutOb m 0 b 1) ((y9.1.take (Int.toNat a1)).length) (b - 0),k = k,0 = 0,a1 = (((Int.toNat a1) : Nat) : Int),c = c,0 ≤ (Int.toNat a1),(Int.toNat a1) ≤ c,c ≤ c,(some (Operand.tmp 26) : Option Operand) = none → (none : Option Operand) = none,((.slice (if c = 0 then n else (n).map (fun a => a.add (0 * 1))) ((Int.toNat a1) - 0) (c - 0)) : Value) = .slice (cutOb n 0 c 1) ((y9.2.take (Int.toNat a1)).length) (c - 0),k = k,oC (.slice (cutOb m 0 b 1) ((y9.1.take (Int.toNat a1)).length) (b - 0)),k = k,oC (.slice (cutOb n 0 c 1) ((y9.2.take (Int.toNat a1)).length) (c - 0))]) (by kernel_rfl) (by kernel_rfl) (fun _ => by kernel_rfl) (fun _ => ⟨rfl,rfl,q.eq,rfl,(Nat.zero_le _),(Nat.le_trans q.2 s),(Nat.le_refl _),(by intro h; first | rfl | cases h),slen (by simp only [List.length_take,List.length_drop]; have h1 : (Int.toNat a1) ≤ y9.1.length := q.2; have h2 : 0 ≤ (Int.toNat a1) := (Nat.zero_le _); omega),rfl,rfl,r.eq,rfl,(Nat.zero_le _),(Nat.le_trans r.2 u),(Nat.le_refl _),(by intro h; first | rfl | cases h),slen (by simp only [List.length_take,List.length_drop]; have h1 : (Int.toNat a1) ≤ y9.2.length := r.2; have h2 : 0 ≤ (Int.toNat a1) := (Nat.zero_le _); omega),rfl,rfl,rfl,rfl,trivial⟩)) ?_
    intro _
    refine GS.setMem (mem' := [(3,.cells k 48 [.slice (cutOb m 0 b 1) ((y9.1.take (Int.toNat a1)).length) (b - 0),.slice (cutOb n 0 c 1) ((y9.2.take (Int.toNat a1)).length) (c - 0)]),(5,o4 n c y9.2),(6,.osl (cutOb m 0 b 1) (b - 0) 5 1 (((List.map rB y9.1).drop 0).take ((Int.toNat a1) - 0)))]) (fun w hw => own_cov (K := 4) (K2 := 6) [3,5,6] hw rfl rfl (own_cut (Nat.zero_le _) (Nat.le_trans q.2 s)) (by kernel_rfl)) ?_
    refine GS.conv (mem' := [(3,.cells k 48 [.slice (cutOb m 0 b 1) ((y9.1.take (Int.toNat a1)).length) (b - 0),.slice (cutOb n 0 c 1) ((y9.2.take (Int.toNat a1)).length) (c - 0)]),(5,o4 n c y9.2),(6,o5 (cutOb m 0 b 1) (b - 0) (y9.1.take (Int.toNat a1)))]) rfl (congrArg (fun rr : List (List Value) => ([(3,.cells k 48 [.slice (cutOb m 0 b 1) ((y9.1.take (Int.toNat a1)).length) (b - 0),.slice (cutOb n 0 c 1) ((y9.2.take (Int.toNat a1)).length) (c - 0)]),(5,o4 n c y9.2),(6,.osl (cutOb m 0 b 1) (b - 0) 5 1 rr)] : List (Nat × Ent))) (show ((List.map rB y9.1).drop 0).take ((Int.toNat a1) - 0) = List.map rB (y9.1.take (Int.toNat a1)) from (by simp only [List.drop_zero,Nat.sub_zero,List.map_take,List.map_drop]))) ?_
    refine GS.setMem (mem' := [(3,.cells k 48 [.slice (cutOb m 0 b 1) ((y9.1.take (Int.toNat a1)).length) (b - 0),.slice (cutOb n 0 c 1) ((y9.2.take (Int.toNat a1)).length) (c - 0)]),(6,o5 (cutOb m 0 b 1) (b - 0) (y9.1.take (Int.toNat a1))),(7,.osl (cutOb n 0 c 1) (c - 0) 4 1 (((List.map rBo y9.2).drop 0).take ((Int.toNat a1) - 0)))]) (fun w hw => own_cov (K := 5) (K2 := 7) [3,6,7] hw rfl rfl (own_cut (Nat.zero_le _) (Nat.le_trans r.2 u)) (by kernel_rfl)) ?_
    refine GS.conv (mem' := [(3,.cells k 48 [.slice (cutOb m 0 b 1) ((y9.1.take (Int.toNat a1)).length) (b - 0),.slice (cutOb n 0 c 1) ((y9.2.take (Int.toNat a1)).length) (c - 0)]),(6,o5 (cutOb m 0 b 1) (b - 0) (y9.1.take (Int.toNat a1))),(7,o4 (cutOb n 0 c 1) (c - 0) (y9.2.take (Int.toNat a1)))]) rfl (congrArg (fun rr : List (List Value) => ([(3,.cells k 48 [.slice (cutOb m 0 b 1) ((y9.1.take (Int.toNat a1)).length) (b - 0),.slice (cutOb n 0 c 1) ((y9.2.take (Int.toNat a1)).length) (c - 0)]),(6,o5 (cutOb m 0 b 1) (b - 0) (y9.1.take (Int.toNat a1))),(7,.osl (cutOb n 0 c 1) (c - 0) 4 1 rr)] : List (Nat × Ent))) (show ((List.map rBo y9.2).drop 0).take ((Int.toNat a1) - 0) = List.map rBo (y9.2.take (Int.toNat a1)) from (by simp only [List.drop_zero,Nat.sub_zero,List.map_take,List.map_drop]))) ?_
    refine GS.seq ?_
    refine GS.rzM (fun _ => [(4,vI 0)]) [] [4] [3,6,7] (fun _ => by kernel_rfl) ?_
    intro _
    have hy := Option.some.inj hm
    subst hy
    refine GS.ret (fn := Try.f31) [0] [vI 0] [] rfl Try.func31 (by kernel_rfl) trivial (fun w' hs => ?_)
    exact ⟨⟨cutOb m 0 b 1,b - 0,cutOb n 0 c 1,c - 0⟩,rfl,hs.turnedG (ks := [6,7,3]) rfl rfl⟩

end Go.Proofs.Ytmdfkklldbfocaa
