/-
  CHAPTER 05y: the functions do what their models say (1).
-/
import Derived.Test.YtmdfkklldbfocaaM05y
set_option linter.unusedVariables false
set_option linter.unusedSimpArgs false
set_option maxRecDepth 100000
set_option maxHeartbeats 8000000
namespace Go.Proofs.Ytmdfkklldbfocaa
open Go Go.RowKit Sx

theorem w_extent_New (F : Nat) {y : Int} (hm : m_extent_New F = some y) : CallG Try.prog 8 #[] (X := Nat) (fun (x0 : Nat) => pA x0 0) [] [] (fun (x0 : Nat) => [.cells x0 56 [.bool true,.pointer none,vI y]]) := by
  intro w hg
  rw [m_extent_New] at hm
  refine GS.start (S := mayT [] []) (mem := []) Try.func8 rfl Try.ntmps8 (Nat.le_of_ble_eq_true rfl) (hg.start rfl) ?_
  refine GS.conv (env' := []) rfl rfl ?_
  refine GS.seq ?_
  refine GS.rzM (fun _ => []) [] [] [] (fun _ => by kernel_rfl) ?_
  intro _
  refine GS.seq ?_
  refine GS.rz (fun a => [(0,pA ((a 1).x) 0)]) (fun a => [(1,.cells ((a 1).x) 56 [.bool true,.pointer none,vI 0])]) [(1,{ act := .new .var,key := some 1 })] [0] [1] (fun a => by kernel_rfl) ?_
  intro a
  have hy := Option.some.inj hm
  subst hy
  refine GS.ret (fn := Try.f8) [0] [pA ((a 1).x) 0] [] rfl Try.func8 (by kernel_rfl) trivial (fun w' hs => ?_)
  exact ⟨((a 1).x),rfl,hs.turnedG (ks := [1]) rfl rfl⟩

theorem w___extent_Map__is (F : Nat) (c : Nat) (a : Value) (b : Int) {y : Unit} (hm : m___extent_Map__is F b = some y) : CallG Try.prog 25 #[pA c 0] (X := Unit) (fun (_ : Unit) => .bool true) [] [.rd (some ⟨c,0,none⟩) 3 ([[.bool true,a,vI b]] : List (List Value))] (fun (_ : Unit) => []) := by
  intro w hg
  rw [m___extent_Map__is] at hm
  refine GS.start (S := mayT [] [.rd (some ⟨c,0,none⟩) 3 ([[.bool true,a,vI b]] : List (List Value))]) (mem := [(1,.rd (some ⟨c,0,none⟩) 3 ([[.bool true,a,vI b]] : List (List Value)))]) Try.func25 rfl Try.ntmps25 (Nat.le_of_ble_eq_true rfl) (hg.start rfl) ?_
  refine GS.conv (env' := [(0,pA c 0)]) rfl rfl ?_
  refine GS.seq ?_
  refine GS.rzM (fun _ => [(0,pA c 0)]) [] [0] [1] (fun _ => by kernel_rfl) ?_
  intro _
  refine GS.seq ?_
  refine GS.rg (fun _ => [(2,.bool true)]) (fun _ => []) [(6,{ act := .load 1 0 0 [.bool true,a,vI b] })] [2] [] (fun _ => [c = blk (some ⟨c,0,none⟩),0 = offs (some ⟨c,0,none⟩) + (0 * 3 + 0),([[.bool true,a,vI b]] : List (List Value))[0]? = some [.bool true,a,vI b]]) (fun _ => by kernel_rfl) (fun _ => ⟨rfl,rfl,rfl,trivial⟩) ?_
  intro _
  have hy := Option.some.inj hm
  subst hy
  refine GS.ret (fn := Try.f25) [0] [.bool true] [] rfl Try.func25 (by kernel_rfl) trivial (fun w' hs => ?_)
  exact ⟨(),rfl,hs.turnedG (ks := []) rfl rfl⟩

theorem w___extent_Map__Extents (F : Nat) (s : Nat) (j : Hds) (h : List S_extent_run) (r : Int) {y : List S_extent_run} (hm : m___extent_Map__Extents F h r = some y) : CallG Try.prog 16 #[pA s 0] (X := Nat × Option Addr × Nat × Hds) (fun ⟨x0,x1,x2,x3⟩ => .func (.func 26) #[] #[pA x0 0]) [] [Ent.all (sgs 59 nX59 j none h),Ent.all (nins nJ59 j h),.rd (some ⟨s,0,none⟩) 3 ([[.bool true,.pointer (sgp j none h),vI r]] : List (List Value))] (fun ⟨x0,x1,x2,x3⟩ => [.osl x1 x2 59 3 (nrows nR59 x3 y),bag (nins nI59 x3 y),.cells x0 61 [.slice x1 y.length x2]]) := by
  intro w hg
  rw [m___extent_Map__Extents] at hm
  refine GS.start (S := mayT [] [Ent.all (sgs 59 nX59 j none h),Ent.all (nins nJ59 j h),.rd (some ⟨s,0,none⟩) 3 ([[.bool true,.pointer (sgp j none h),vI r]] : List (List Value))]) (mem := [(1,Ent.all (sgs 59 nX59 j none h)),(2,Ent.all (nins nJ59 j h)),(3,.rd (some ⟨s,0,none⟩) 3 ([[.bool true,.pointer (sgp j none h),vI r]] : List (List Value)))]) Try.func16 rfl Try.ntmps16 (Nat.le_of_ble_eq_true rfl) (hg.start rfl) ?_
  refine GS.conv (env' := [(0,pA s 0)]) rfl rfl ?_
  refine GS.seq ?_
  refine GS.rzM (fun _ => [(0,pA s 0)]) [] [0] [1,2,3] (fun _ => by kernel_rfl) ?_
  intro _
  refine GS.seq ?_
  refine GS.rz (fun o => [(0,pA s 0),(3,pA ((o 0).x) 0)]) (fun o => [(1,Ent.all (sgs 59 nX59 j none h)),(2,Ent.all (nins nJ59 j h)),(3,.rd (some ⟨s,0,none⟩) 3 ([[.bool true,.pointer (sgp j none h),vI r]] : List (List Value))),(4,.cells ((o 0).x) 61 [.slice none 0 0])]) [(0,{ act := .new .var,key := some 4 })] [0,3] [1,2,3,4] (fun o => by kernel_rfl) ?_
  intro o
  refine GS.seq ?_
  refine GS.seq ?_
  refine bnd_elim hm (fun y4 e5 hm => ?_)
  refine GS.rgM (fun _ => [(0,pA s 0),(3,pA ((o 0).x) 0),(6,.bool true)]) [(1,{ act := .call [3] (.bool true) })] [0,3,6] [1,2,3,4] (fun _ => [CallOK Try.prog 25 #[pA s 0] (.bool true) [some (.rd (some ⟨s,0,none⟩) 3 ([[.bool true,.pointer (sgp j none h),vI r]] : List (List Value)))]]) (fun _ => by kernel_rfl) (fun _ => ⟨(by have h1 := w___extent_Map__is F s (.pointer (sgp j none h)) r e5; exact h1.ok ⟨(.inl ⟨.rd (some ⟨s,0,none⟩) 3 ([[.bool true,.pointer (sgp j none h),vI r]] : List (List Value)),.head _,Cov.refl _⟩),trivial⟩),trivial⟩) ?_
  intro _
  refine GS.cond (t := true) rfl rfl (fun _ => ?_) (fun hf => by cases hf)
  refine GS.seq ?_
  refine GS.rg (fun _ => [(3,pA ((o 0).x) 0),(4,.pointer (sgp j none h))]) (fun _ => [(1,Ent.all (sgs 59 nX59 j none h)),(2,Ent.all (nins nJ59 j h)),(4,.cells ((o 0).x) 61 [.slice none 0 0])]) [(3,{ act := .load 3 0 1 [.bool true,.pointer (sgp j none h),vI r] })] [3,4] [1,2,4] (fun _ => [s = blk (some ⟨s,0,none⟩),1 = offs (some ⟨s,0,none⟩) + (0 * 3 + 1),([[.bool true,.pointer (sgp j none h),vI r]] : List (List Value))[0]? = some [.bool true,.pointer (sgp j none h),vI r]]) (fun _ => by kernel_rfl) (fun _ => ⟨rfl,rfl,rfl,trivial⟩) ?_
  intro _
  refine GS.block ?_
  refine GS.loop ?_
  refine GS.setMem (mem' := [(1,Ent.all (sgs 59 nX59 j none h)),(2,Ent.all (nins nJ59 j h)),(4,.cells ((o 0).x) 61 [.slice none 0 0]),(20002,.osl none 0 59 3 (nrows nR59 (fun _ => nilH) ([] : List S_extent_run)))]) (fun w hw => Sat.addNil hw rfl) ?_
  refine GS.setMem (mem' := [(1,Ent.all (sgs 59 nX59 j none h)),(2,Ent.all (nins nJ59 j h)),(4,.cells ((o 0).x) 61 [.slice none 0 0]),(20002,.osl none 0 59 3 (nrows nR59 (fun _ => nilH) ([] : List S_extent_run))),(20003,bag [])]) (fun w hw => Sat.addEmp hw (emp_bag (fun e he => by cases he)) rfl) ?_
  refine GS.rekey (env' := [(3,pA ((o 0).x) 0),(4,.pointer (sgp j none h))]) (mem' := [(1,Ent.all (sgs 59 nX59 j none h)),(2,Ent.all (nins nJ59 j h)),(4,.cells ((o 0).x) 61 [.slice none 0 0]),(20000,.osl none 0 59 3 (nrows nR59 (fun _ => nilH) ([] : List S_extent_run))),(20001,bag [])]) [3,4] [(1,1),(2,2),(4,4),(20000,20002),(20001,20003)] (by kernel_rfl) (by kernel_rfl) rfl ?_
  refine loopW_elim hm (fun st43 hst45 hm => ?_)
  refine GS.loopInv (ι := Nat × List S_extent_run × List S_extent_run × Hds × Hds × Option Addr × Nat) (I := fun ⟨u,q,a,c,d,l,m⟩ => loopW st43 u (q,a) = some y) (μ := fun ⟨u,q,a,c,d,l,m⟩ => u) (E := fun ⟨u,q,a,c,d,l,m⟩ => [(3,pA ((o 0).x) 0),(4,.pointer (sgp c none q))]) (M := fun ⟨u,q,a,c,d,l,m⟩ => [(1,Ent.all (sgs 59 nX59 c none q)),(2,Ent.all (nins nJ59 c q)),(4,.cells ((o 0).x) 61 [.slice l a.length m]),(20000,.osl l m 59 3 (nrows nR59 d a)),(20001,bag (nins nI59 d a))]) ?_ ⟨F,h,([] : List S_extent_run),j,(fun _ => nilH),none,0⟩ hm
  rintro ⟨u,q,a,c,d,l,m⟩ hm z
  cases u with
  | zero => cases hm
  | succ u =>
    replace hm := (hst45 _ _).symm.trans hm
    try dsimp only at hm
    refine GS.seq ?_
    refine GS.seq ?_
    refine lcase_elim hm (fun v hm => ?_) (fun k n v hm => ?_)
    · skip
      refine GS.conv (env' := [(3,pA ((o 0).x) 0),(4,.pointer none)]) (mem' := [(1,Ent.all (sgs 59 nX59 c none q)),(2,Ent.all (nins nJ59 c q)),(4,.cells ((o 0).x) 61 [.slice l a.length m]),(20000,.osl l m 59 3 (nrows nR59 d a)),(20001,bag (nins nI59 d a))]) (by first | rfl | (rw [v] <;> rfl)) (rfl) ?_
      refine GS.rz (fun _ => [(3,pA ((o 0).x) 0),(4,.pointer none),(12,.bool false)]) (fun _ => [(4,.cells ((o 0).x) 61 [.slice l a.length m]),(20000,.osl l m 59 3 (nrows nR59 d a)),(20001,bag (nins nI59 d a))]) [] [3,4,12] [4,20000,20001] (fun _ => by kernel_rfl) ?_
      intro _
      refine GS.cond (t := false) rfl rfl (fun hf => by cases hf) (fun _ => ?_)
      refine GS.exit rfl ?_
      refine GS.seq ?_
      refine GS.rzM (fun _ => [(2,.func (.func 26) #[] #[pA ((o 0).x) 0])]) [] [2] [4,20000,20001] (fun _ => by kernel_rfl) ?_
      intro _
      have hy := Option.some.inj hm
      subst hy
      refine GS.ret (fn := Try.f16) [0] [.func (.func 26) #[] #[pA ((o 0).x) 0]] [] rfl Try.func16 (by kernel_rfl) trivial (fun w' hs => ?_)
      exact ⟨⟨(o 0).x,l,m,d⟩,rfl,hs.turnedG (ks := [20000,20001,4]) rfl rfl⟩
    · try dsimp only at hm
      refine GS.conv (env' := [(3,pA ((o 0).x) 0),(4,pA ((c 0 9).2) 0)]) (mem' := [(1,Ent.all (sgs 59 nX59 c none q)),(2,Ent.all (nins nJ59 c q)),(4,.cells ((o 0).x) 61 [.slice l a.length m]),(20000,.osl l m 59 3 (nrows nR59 d a)),(20001,bag (nins nI59 d a))]) (by first | rfl | (rw [v] <;> rfl)) (rfl) ?_
      refine GS.setMem (mem' := [(1,Ent.all (sgs 59 nX59 c none q)),(2,Ent.all (nins nJ59 c q)),(4,.cells ((o 0).x) 61 [.slice l a.length m]),(20000,.osl l m 59 3 (nrows nR59 d a)),(20001,bag (nins nI59 d a)),(20002,Ent.all (sgs 59 nX59 c none (k :: n)))]) (fun w hw => Sat.addCov (k0 := 1) hw rfl rfl rfl (by rw [v]; exact Cov.refl _) rfl) ?_
      refine GS.setMem (mem' := [(1,Ent.all (sgs 59 nX59 c none q)),(2,Ent.all (nins nJ59 c q)),(4,.cells ((o 0).x) 61 [.slice l a.length m]),(20000,.osl l m 59 3 (nrows nR59 d a)),(20001,bag (nins nI59 d a)),(20002,Ent.all (sgs 59 nX59 c none (k :: n))),(20003,Ent.all (nins nJ59 c (k :: n)))]) (fun w hw => Sat.addCov (k0 := 2) hw rfl rfl rfl (by rw [v]; exact Cov.refl _) rfl) ?_
      refine GS.setMem (mem' := [(1,Ent.all (sgs 59 nX59 c none q)),(2,Ent.all (nins nJ59 c q)),(4,.cells ((o 0).x) 61 [.slice l a.length m]),(20000,.osl l m 59 3 (nrows nR59 d a)),(20001,bag (nins nI59 d a)),(20002,Ent.all (sgs 59 nX59 c none (k :: n))),(20003,Ent.all (nins nJ59 c (k :: n))),(20004,.rd (some ⟨(c 0 9).2,0,none⟩) 3 ([[vI k.at_,.slice (((c 0) 0).1) k.b.length (((c 0) 0).2),.pointer (sgp (fun i => c (i + 1)) none n)]] : List (List Value)))]) (fun w hw => Sat.addCov (k0 := 20002) hw rfl rfl rfl Cov.chr_head rfl) ?_
      refine GS.setMem (mem' := [(1,Ent.all (sgs 59 nX59 c none q)),(2,Ent.all (nins nJ59 c q)),(4,.cells ((o 0).x) 61 [.slice l a.length m]),(20000,.osl l m 59 3 (nrows nR59 d a)),(20001,bag (nins nI59 d a)),(20002,Ent.all (sgs 59 nX59 c none (k :: n))),(20003,Ent.all (nins nJ59 c (k :: n))),(20004,.rd (some ⟨(c 0 9).2,0,none⟩) 3 ([[vI k.at_,.slice (((c 0) 0).1) k.b.length (((c 0) 0).2),.pointer (sgp (fun i => c (i + 1)) none n)]] : List (List Value))),(20005,Ent.all (sgs 59 nX59 (fun i => c (i + 1)) none n))]) (fun w hw => Sat.addCov (k0 := 20002) hw rfl rfl rfl Cov.chr_tail rfl) ?_
      refine GS.setMem (mem' := [(1,Ent.all (sgs 59 nX59 c none q)),(2,Ent.all (nins nJ59 c q)),(4,.cells ((o 0).x) 61 [.slice l a.length m]),(20000,.osl l m 59 3 (nrows nR59 d a)),(20001,bag (nins nI59 d a)),(20002,Ent.all (sgs 59 nX59 c none (k :: n))),(20003,Ent.all (nins nJ59 c (k :: n))),(20004,.rd (some ⟨(c 0 9).2,0,none⟩) 3 ([[vI k.at_,.slice (((c 0) 0).1) k.b.length (((c 0) 0).2),.pointer (sgp (fun i => c (i + 1)) none n)]] : List (List Value))),(20005,Ent.all (sgs 59 nX59 (fun i => c (i + 1)) none n)),(20006,r5 (((c 0) 0).1) k.b)]) (fun w hw => Sat.addCov (k0 := 20003) hw rfl rfl rfl (Cov.all_head (.head _)) rfl) ?_
      refine GS.setMem (mem' := [(1,Ent.all (sgs 59 nX59 c none q)),(2,Ent.all (nins nJ59 c q)),(4,.cells ((o 0).x) 61 [.slice l a.length m]),(20000,.osl l m 59 3 (nrows nR59 d a)),(20001,bag (nins nI59 d a)),(20002,Ent.all (sgs 59 nX59 c none (k :: n))),(20003,Ent.all (nins nJ59 c (k :: n))),(20004,.rd (some ⟨(c 0 9).2,0,none⟩) 3 ([[vI k.at_,.slice (((c 0) 0).1) k.b.length (((c 0) 0).2),.pointer (sgp (fun i => c (i + 1)) none n)]] : List (List Value))),(20005,Ent.all (sgs 59 nX59 (fun i => c (i + 1)) none n)),(20006,r5 (((c 0) 0).1) k.b),(20007,Ent.all (nins nJ59 (fun i => c (i + 1)) n))]) (fun w hw => Sat.addCov (k0 := 20003) hw rfl rfl rfl Cov.all_tail rfl) ?_
      refine GS.know (p := k.b.length ≤ ((c 0) 0).2) (fun w hw => (hw.ok 20003 _ rfl).1 (Ent.fact (k.b.length ≤ ((c 0) 0).2)) (List.mem_append.2 (.inl (.tail _ (.head _))))) (fun C => ?_)
      refine GS.setMem (mem' := [(1,Ent.all (sgs 59 nX59 c none q)),(2,Ent.all (nins nJ59 c q)),(4,.cells ((o 0).x) 61 [.slice l a.length m]),(20000,.osl l m 59 3 (nrows nR59 d a)),(20001,bag (nins nI59 d a)),(20004,.rd (some ⟨(c 0 9).2,0,none⟩) 3 ([[vI k.at_,.slice (((c 0) 0).1) k.b.length (((c 0) 0).2),.pointer (sgp (fun i => c (i + 1)) none n)]] : List (List Value))),(20005,Ent.all (sgs 59 nX59 (fun i => c (i + 1)) none n)),(20006,r5 (((c 0) 0).1) k.b),(20007,Ent.all (nins nJ59 (fun i => c (i + 1)) n))]) (fun w hw => hw.less (memOut_look [1,2,4,20000,20001,20004,20005,20006,20007] (by kernel_rfl))) ?_
      refine GS.rz (fun _ => [(3,pA ((o 0).x) 0),(4,pA ((c 0 9).2) 0),(12,.bool true)]) (fun _ => [(4,.cells ((o 0).x) 61 [.slice l a.length m]),(20000,.osl l m 59 3 (nrows nR59 d a)),(20001,bag (nins nI59 d a)),(20004,.rd (some ⟨(c 0 9).2,0,none⟩) 3 ([[vI k.at_,.slice (((c 0) 0).1) k.b.length (((c 0) 0).2),.pointer (sgp (fun i => c (i + 1)) none n)]] : List (List Value))),(20005,Ent.all (sgs 59 nX59 (fun i => c (i + 1)) none n)),(20006,r5 (((c 0) 0).1) k.b),(20007,Ent.all (nins nJ59 (fun i => c (i + 1)) n))]) [] [3,4,12] [4,20000,20001,20004,20005,20006,20007] (fun _ => by kernel_rfl) ?_
      intro _
      refine GS.cond (t := true) rfl rfl (fun _ => ?_) (fun hf => by cases hf)
      refine GS.skip ?_
      refine GS.seq ?_
      refine GS.block ?_
      refine grd_elim hm (fun A hm => ?_)
      refine grd_elim hm (fun B hm => ?_)
      refine GS.region (env' := fun g => [(3,pA ((o 0).x) 0),(4,pA ((c 0 9).2) 0)]) (mem' := fun g => [(4,.cells ((o 0).x) 61 [.slice ((g 12).ob) ((a ++ [k]).length) ((g 12).cap)]),(20000,.osl ((g 12).ob) ((g 12).cap) 59 3 ((nrows nR59 d a) ++ ([[vI k.at_,.slice ((g 9).ob) k.b.length ((g 9).cap),.pointer none]] : List (List Value)))),(20001,bag (nins nI59 d a)),(20004,.rd (some ⟨(c 0 9).2,0,none⟩) 3 ([[vI k.at_,.slice (((c 0) 0).1) k.b.length (((c 0) 0).2),.pointer (sgp (fun i => c (i + 1)) none n)]] : List (List Value))),(20005,Ent.all (sgs 59 nX59 (fun i => c (i + 1)) none n)),(20006,r5 (((c 0) 0).1) k.b),(20007,Ent.all (nins nJ59 (fun i => c (i + 1)) n)),(20008,.osl ((g 9).ob) ((g 9).cap) 5 1 (List.map rB k.b))]) (RunsTo.mkd [(0,{ act := .load 4 0 0 [] }),(4,{ act := .load 20004 0 0 [vI k.at_,.slice (((c 0) 0).1) k.b.length (((c 0) 0).2),.pointer (sgp (fun i => c (i + 1)) none n)] }),(8,{ act := .load 20004 0 1 [vI k.at_,.slice (((c 0) 0).1) k.b.length (((c 0) 0).2),.pointer (sgp (fun i => c (i + 1)) none n)] }),(9,{ act := .app (some 20006),key := some 20008,spf := some (fun f => .slice (f.ob) k.b.length (f.cap)) }),(11,{ act := .new (.row 1 3),key := some 20009,spf := some (fun f => .slice (some (Addr.mk f.x 0 none)) ([k].length) 1) }),(12,{ act := .app (some 20009),key := some 20000,spf := some (fun f => .slice (f.ob) ((a ++ [k]).length) (f.cap)) }),(13,{ act := .store 0 0 [],key := some 4 })] [3,4] [4,20000,20001,20004,20005,20006,20007,20008] (fun g => [(o 0).x = (o 0).x,(c 0 9).2 = blk (some ⟨(c 0 9).2,0,none⟩),0 = offs (some ⟨(c 0 9).2,0,none⟩) + (0 * 3 + 0),([[vI k.at_,.slice (((c 0) 0).1) k.b.length (((c 0) 0).2),.pointer (sgp (fun i => c (i + 1)) none n)]] : List (List Value))[0]? = some [vI k.at_,.slice (((c 0) 0).1) k.b.length (((c 0) 0).2),.pointer (sgp (fun i => c (i + 1)) none n)],(c 0 9).2 = blk (some ⟨(c 0 9).2,0,none⟩),1 = offs (some ⟨(c 0 9).2,0,none⟩) + (0 * 3 + 1),([[vI k.at_,.slice (((c 0) 0).1) k.b.length (((c 0) 0).2),.pointer (sgp (fun i => c (i + 1)) none n)]] : List (List Value))[0]? = some [vI k.at_,.slice (((c 0) 0).1) k.b.length (((c 0) 0).2),.pointer (sgp (fun i => c (i + 1)) none n)],(((c 0) 0).1) = (((c 0) 0).1),k.b.length = (List.map rB k.b).length,0 = 0,0 = 0,(List.map rB k.b).length * (1 + 1) ≤ 70368744177664,((.slice ((g 9).ob) (0 + (List.map rB k.b).length) ((g 9).cap)) : Value) = .slice ((g 9).ob) k.b.length ((g 9).cap),((.slice (some (Addr.mk (g 11).x 0 none)) 1 1) : Value) = .slice (some (Addr.mk (g 11).x 0 none)) ([k].length) 1,(some (Addr.mk (g 11).x 0 none)) = (some (Addr.mk (g 11).x 0 none)),[k].length = ([[vI k.at_,.slice ((g 9).ob) k.b.length ((g 9).cap),.pointer none]] : List (List Value)).length,l = l,m = m,a.length = (nrows nR59 d a).length,((nrows nR59 d a).length + ([[vI k.at_,.slice ((g 9).ob) k.b.length ((g 9).cap),.pointer none]] : List (List Value)).length) * (40 + 1) ≤ 70368744177664,([[vI k.at_,.slice ((g 9).ob) k.b.length ((g 9).cap),.pointer none]] : List (List Value)).flatten.all Value.oneCell' = true,((.slice ((g 12).ob) (a.length + ([[vI k.at_,.slice ((g 9).ob) k.b.length ((g 9).cap),.pointer none]] : List (List Value)).length) ((g 12).cap)) : Value) = .slice ((g 12).ob) ((a ++ [k]).length) ((g 12).cap),(o 0).x = (o 0).x,oC (.slice ((g 12).ob) ((a ++ [k]).length) ((g 12).cap))]) (by kernel_rfl) (by kernel_rfl) (fun g => by kernel_rfl) (fun g => ⟨rfl,rfl,rfl,rfl,rfl,rfl,rfl,rfl,mlen rB k.b,rfl,rfl,appb0 A (mlen rB k.b).symm,slen (by rw [(mlen rB k.b).symm,Nat.zero_add]),rfl,rfl,(by rw [show ([[vI k.at_,.slice ((g 9).ob) k.b.length ((g 9).cap),.pointer none]] : List (List Value)) = nrows nR59 (fun _ => (fun _ => ((g 9).ob,(g 9).cap))) [k] from rfl]; exact (nrows_len nR59 (fun _ => (fun _ => ((g 9).ob,(g 9).cap))) [k]).symm),rfl,rfl,(nrows_len nR59 d a).symm,appb B (nrows_len nR59 d a) (by rw [show ([[vI k.at_,.slice ((g 9).ob) k.b.length ((g 9).cap),.pointer none]] : List (List Value)) = nrows nR59 (fun _ => (fun _ => ((g 9).ob,(g 9).cap))) [k] from rfl]; exact (nrows_len nR59 (fun _ => (fun _ => ((g 9).ob,(g 9).cap))) [k])),(by rw [show ([[vI k.at_,.slice ((g 9).ob) k.b.length ((g 9).cap),.pointer none]] : List (List Value)) = nrows nR59 (fun _ => (fun _ => ((g 9).ob,(g 9).cap))) [k] from rfl]; exact (nrows_one nR59 (fun _ _ => rfl) _ _)),slen (by simp [nrows_len]),rfl,rfl,trivial⟩)) ?_
      intro g
      refine GS.conv (mem' := [(4,.cells ((o 0).x) 61 [.slice ((g 12).ob) ((a ++ [k]).length) ((g 12).cap)]),(20000,.osl ((g 12).ob) ((g 12).cap) 59 3 (nrows nR59 (glueH a.length d (fun _ => (fun _ => ((g 9).ob,(g 9).cap)))) (a ++ [k]))),(20001,bag (nins nI59 d a)),(20004,.rd (some ⟨(c 0 9).2,0,none⟩) 3 ([[vI k.at_,.slice (((c 0) 0).1) k.b.length (((c 0) 0).2),.pointer (sgp (fun i => c (i + 1)) none n)]] : List (List Value))),(20005,Ent.all (sgs 59 nX59 (fun i => c (i + 1)) none n)),(20006,r5 (((c 0) 0).1) k.b),(20007,Ent.all (nins nJ59 (fun i => c (i + 1)) n)),(20008,.osl ((g 9).ob) ((g 9).cap) 5 1 (List.map rB k.b))]) rfl (congrArg (fun rr : List (List Value) => ([(4,.cells ((o 0).x) 61 [.slice ((g 12).ob) ((a ++ [k]).length) ((g 12).cap)]),(20000,.osl ((g 12).ob) ((g 12).cap) 59 3 rr),(20001,bag (nins nI59 d a)),(20004,.rd (some ⟨(c 0 9).2,0,none⟩) 3 ([[vI k.at_,.slice (((c 0) 0).1) k.b.length (((c 0) 0).2),.pointer (sgp (fun i => c (i + 1)) none n)]] : List (List Value))),(20005,Ent.all (sgs 59 nX59 (fun i => c (i + 1)) none n)),(20006,r5 (((c 0) 0).1) k.b),(20007,Ent.all (nins nJ59 (fun i => c (i + 1)) n)),(20008,.osl ((g 9).ob) ((g 9).cap) 5 1 (List.map rB k.b))] : List (Nat × Ent))) (show (nrows nR59 d a) ++ ([[vI k.at_,.slice ((g 9).ob) k.b.length ((g 9).cap),.pointer none]] : List (List Value)) = nrows nR59 (glueH a.length d (fun _ => (fun _ => ((g 9).ob,(g 9).cap)))) (a ++ [k]) from (by rw [show nrows nR59 d a = nrows nR59 d a from rfl,show ([[vI k.at_,.slice ((g 9).ob) k.b.length ((g 9).cap),.pointer none]] : List (List Value)) = nrows nR59 (fun _ => (fun _ => ((g 9).ob,(g 9).cap))) [k] from rfl]; exact nrows_app nR59 d (fun _ => (fun _ => ((g 9).ob,(g 9).cap))) a [k]))) ?_
      refine GS.conv (mem' := [(4,.cells ((o 0).x) 61 [.slice ((g 12).ob) ((a ++ [k]).length) ((g 12).cap)]),(20000,.osl ((g 12).ob) ((g 12).cap) 59 3 (nrows nR59 (glueH a.length d (fun _ => (fun _ => ((g 9).ob,(g 9).cap)))) (a ++ [k]))),(20001,bag (nins nI59 d a)),(20004,.rd (some ⟨(c 0 9).2,0,none⟩) 3 ([[vI k.at_,.slice (((c 0) 0).1) k.b.length (((c 0) 0).2),.pointer (sgp (fun i => c (i + 1)) none n)]] : List (List Value))),(20005,Ent.all (sgs 59 nX59 (fun i => c (i + 1)) none n)),(20006,r5 (((c 0) 0).1) k.b),(20007,Ent.all (nins nJ59 (fun i => c (i + 1)) n)),(20008,o5 ((g 9).ob) ((g 9).cap) k.b)]) rfl (congrArg (fun rr : List (List Value) => ([(4,.cells ((o 0).x) 61 [.slice ((g 12).ob) ((a ++ [k]).length) ((g 12).cap)]),(20000,.osl ((g 12).ob) ((g 12).cap) 59 3 (nrows nR59 (glueH a.length d (fun _ => (fun _ => ((g 9).ob,(g 9).cap)))) (a ++ [k]))),(20001,bag (nins nI59 d a)),(20004,.rd (some ⟨(c 0 9).2,0,none⟩) 3 ([[vI k.at_,.slice (((c 0) 0).1) k.b.length (((c 0) 0).2),.pointer (sgp (fun i => c (i + 1)) none n)]] : List (List Value))),(20005,Ent.all (sgs 59 nX59 (fun i => c (i + 1)) none n)),(20006,r5 (((c 0) 0).1) k.b),(20007,Ent.all (nins nJ59 (fun i => c (i + 1)) n)),(20008,.osl ((g 9).ob) ((g 9).cap) 5 1 rr)] : List (Nat × Ent))) (show List.map rB k.b = List.map rB k.b from rfl)) ?_
      refine GS.setMem (mem' := [(4,.cells ((o 0).x) 61 [.slice ((g 12).ob) ((a ++ [k]).length) ((g 12).cap)]),(20000,.osl ((g 12).ob) ((g 12).cap) 59 3 (nrows nR59 (glueH a.length d (fun _ => (fun _ => ((g 9).ob,(g 9).cap)))) (a ++ [k]))),(20001,bag (nins nI59 (glueH a.length d (fun _ => (fun _ => ((g 9).ob,(g 9).cap)))) (a ++ [k]))),(20004,.rd (some ⟨(c 0 9).2,0,none⟩) 3 ([[vI k.at_,.slice (((c 0) 0).1) k.b.length (((c 0) 0).2),.pointer (sgp (fun i => c (i + 1)) none n)]] : List (List Value))),(20005,Ent.all (sgs 59 nX59 (fun i => c (i + 1)) none n)),(20006,r5 (((c 0) 0).1) k.b),(20007,Ent.all (nins nJ59 (fun i => c (i + 1)) n))]) (fun w hw => nest_app (I := nI59) (K := 20001) (nk := [20008]) (h2 := (fun _ => (fun _ => ((g 9).ob,(g 9).cap)))) (L2 := [k]) [4,20000,20001,20004,20005,20006,20007] hw rfl rfl rfl rfl (by kernel_rfl)) ?_
      refine GS.inBlock ?_
      refine GS.rg (fun _ => [(3,pA ((o 0).x) 0),(4,.pointer (sgp (fun i => c (i + 1)) none n))]) (fun _ => [(4,.cells ((o 0).x) 61 [.slice ((g 12).ob) ((a ++ [k]).length) ((g 12).cap)]),(20000,.osl ((g 12).ob) ((g 12).cap) 59 3 (nrows nR59 (glueH a.length d (fun _ => (fun _ => ((g 9).ob,(g 9).cap)))) (a ++ [k]))),(20001,bag (nins nI59 (glueH a.length d (fun _ => (fun _ => ((g 9).ob,(g 9).cap)))) (a ++ [k]))),(20005,Ent.all (sgs 59 nX59 (fun i => c (i + 1)) none n)),(20007,Ent.all (nins nJ59 (fun i => c (i + 1)) n))]) [(3,{ act := .load 20004 0 2 [vI k.at_,.slice (((c 0) 0).1) k.b.length (((c 0) 0).2),.pointer (sgp (fun i => c (i + 1)) none n)] })] [3,4] [4,20000,20001,20005,20007] (fun _ => [(c 0 9).2 = blk (some ⟨(c 0 9).2,0,none⟩),2 = offs (some ⟨(c 0 9).2,0,none⟩) + (0 * 3 + 2),([[vI k.at_,.slice (((c 0) 0).1) k.b.length (((c 0) 0).2),.pointer (sgp (fun i => c (i + 1)) none n)]] : List (List Value))[0]? = some [vI k.at_,.slice (((c 0) 0).1) k.b.length (((c 0) 0).2),.pointer (sgp (fun i => c (i + 1)) none n)]]) (fun _ => by kernel_rfl) (fun _ => ⟨rfl,rfl,rfl,trivial⟩) ?_
      intro _
      refine GS.inLoop ?_
      refine GS.rekey (env' := [(3,pA ((o 0).x) 0),(4,.pointer (sgp (fun i => c (i + 1)) none n))]) (mem' := [(1,Ent.all (sgs 59 nX59 (fun i => c (i + 1)) none n)),(2,Ent.all (nins nJ59 (fun i => c (i + 1)) n)),(4,.cells ((o 0).x) 61 [.slice ((g 12).ob) ((a ++ [k]).length) ((g 12).cap)]),(20000,.osl ((g 12).ob) ((g 12).cap) 59 3 (nrows nR59 (glueH a.length d (fun _ => (fun _ => ((g 9).ob,(g 9).cap)))) (a ++ [k]))),(20001,bag (nins nI59 (glueH a.length d (fun _ => (fun _ => ((g 9).ob,(g 9).cap)))) (a ++ [k])))]) [3,4] [(1,20005),(2,20007),(4,4),(20000,20000),(20001,20001)] (by kernel_rfl) (by kernel_rfl) rfl ?_
      exact z ⟨u,n,(a ++ [k]),(fun i => c (i + 1)),(glueH a.length d (fun _ => (fun _ => ((g 9).ob,(g 9).cap)))),(g 12).ob,(g 12).cap⟩ hm (Nat.lt_succ_self _)

theorem w___extent_Map__Extents_1 (F : Nat) {Ty Ay : Type} (Jy : Ty → Ay → List Ent) (RLy : List Ent) (ly : Nat) (ky : Ty → (Int × List UInt8) → Option (Bool × Ty)) (hyy : ∀ (s : Ty) (a : Ay) (py1_o : Option Addr) (py1_c : Nat) (py0 : Int) (py1 : List UInt8) (y : Bool × Ty),ky s (py0,py1) = some y → YieldG Try.prog ly #[vI py0,.slice py1_o py1.length py1_c] (fun _ : Ay => .bool y.1) (bag (Jy s a) :: [o5 py1_o py1_c py1]) [Ent.all RLy] (fun a' => [bag (Jy y.2 a')])) (a0s : Ty) (a0a : Ay) (A : Nat) (e : Option Addr) (k : Nat) (c : Hds) (a1 : List S_extent_run) {y : Ty} (hm : m___extent_Map__Extents_1 F ky a0s a1 = some y) : CallG Try.prog 26 #[.func (.yield ly) #[] #[],pA A 0] (X := Ay) (fun (x0 : Ay) => .tuple #[]) [bag (Jy a0s a0a)] [.rd e 3 (nrows nR59 c a1),Ent.all (nins nJ59 c a1),.rd (some ⟨A,0,none⟩) 1 ([[.slice e a1.length k]] : List (List Value)),(Ent.all RLy)] (fun (x0 : Ay) => [bag (Jy y x0)]) := by
  intro w hg
  rw [m___extent_Map__Extents_1] at hm
  refine GS.start (S := mayT [bag (Jy a0s a0a)] [.rd e 3 (nrows nR59 c a1),Ent.all (nins nJ59 c a1),.rd (some ⟨A,0,none⟩) 1 ([[.slice e a1.length k]] : List (List Value)),(Ent.all RLy)]) (mem := [(1,bag (Jy a0s a0a)),(2,.rd e 3 (nrows nR59 c a1)),(3,Ent.all (nins nJ59 c a1)),(4,.rd (some ⟨A,0,none⟩) 1 ([[.slice e a1.length k]] : List (List Value))),(5,(Ent.all RLy))]) Try.func26 rfl Try.ntmps26 (Nat.le_of_ble_eq_true rfl) (hg.start rfl) ?_
  refine GS.conv (env' := [(0,.func (.yield ly) #[] #[]),(1,pA A 0)]) rfl rfl ?_
  refine GS.seq ?_
  refine GS.rg (fun _ => [(0,.func (.yield ly) #[] #[]),(5,.slice e a1.length k),(6,vI (a1.length : Int)),(7,vI 0)]) (fun _ => [(1,bag (Jy a0s a0a)),(2,.rd e 3 (nrows nR59 c a1)),(3,Ent.all (nins nJ59 c a1)),(5,(Ent.all RLy))]) [(0,{ act := .load 4 0 0 [.slice e a1.length k] })] [0,5,6,7] [1,2,3,5] (fun _ => [A = blk (some ⟨A,0,none⟩),0 = offs (some ⟨A,0,none⟩) + (0 * 1 + 0),([[.slice e a1.length k]] : List (List Value))[0]? = some [.slice e a1.length k]]) (fun _ => by kernel_rfl) (fun _ => ⟨rfl,rfl,rfl,trivial⟩) ?_
  intro _
  refine GS.block ?_
  refine GS.loop ?_
  refine grd_elim hm (fun D hm => ?_)
  refine GS.rekey (env' := [(0,.func (.yield ly) #[] #[]),(5,.slice e a1.length k),(6,vI (a1.length : Int)),(7,vI 0)]) (mem' := [(1,bag (Jy a0s a0a)),(2,.rd e 3 (nrows nR59 c a1)),(3,Ent.all (nins nJ59 c a1)),(5,(Ent.all RLy))]) [0,5,6,7] [(1,1),(2,2),(3,3),(5,5)] (by kernel_rfl) (by kernel_rfl) rfl ?_
  refine loopL_elim hm (fun st49 fn50 hst51 hfn52 hm => ?_)
  refine GS.loopInv (ι := List S_extent_run × Nat × Ty × Ay) (I := fun ⟨q,d,m,n⟩ => a1.drop d = q ∧ loopL st49 fn50 q d m = some y) (μ := fun ⟨q,d,m,n⟩ => q.length) (E := fun ⟨q,d,m,n⟩ => [(0,.func (.yield ly) #[] #[]),(5,.slice e a1.length k),(6,vI (a1.length : Int)),(7,vI (d : Int))]) (M := fun ⟨q,d,m,n⟩ => [(1,bag (Jy m n)),(2,.rd e 3 (nrows nR59 c a1)),(3,Ent.all (nins nJ59 c a1)),(5,(Ent.all RLy))]) ?_ ⟨a1,0,a0s,a0a⟩ ⟨List.drop_zero ..,hm⟩
  rintro ⟨q,d,m,n⟩ ⟨r,hm⟩ C
  cases q with
  | nil =>
    replace hm := (hfn52 _ _).symm.trans hm
    try dsimp only at hm
    refine GS.seq ?_
    refine GS.rzM (fun _ => [(0,.func (.yield ly) #[] #[]),(5,.slice e a1.length k),(6,vI (a1.length : Int)),(7,vI (d : Int)),(8,.bool (decide ((d : Int) < (a1.length : Int))))]) [] [0,5,6,7,8] [1,2,3,5] (fun _ => by kernel_rfl) ?_
    intro _
    refine GS.seq ?_
    refine GS.cond (t := decide ((d : Int) < (a1.length : Int))) rfl rfl (fun G => absb G (drop_dec0 r)) (fun _ => ?_)
    refine GS.exit rfl ?_
    have hy := Option.some.inj hm
    subst hy
    refine GS.end_ (fn := Try.f26) [] [] [] rfl Try.func26 (by kernel_rfl) trivial (fun w' hs => ?_)
    exact ⟨n,rfl,hs.turnedG (ks := [1]) rfl rfl⟩
  | cons j q =>
    replace hm := (hst51 _ _ _ _).symm.trans hm
    try dsimp only at hm
    refine GS.seq ?_
    refine GS.rzM (fun _ => [(0,.func (.yield ly) #[] #[]),(5,.slice e a1.length k),(6,vI (a1.length : Int)),(7,vI (d : Int)),(8,.bool (decide ((d : Int) < (a1.length : Int))))]) [] [0,5,6,7,8] [1,2,3,5] (fun _ => by kernel_rfl) ?_
    intro _
    refine GS.seq ?_
    refine GS.cond (t := decide ((d : Int) < (a1.length : Int))) rfl rfl (fun _ => ?_) (fun H => absb (drop_dec r) H)
    refine GS.skip ?_
    refine GS.seq ?_
    refine GS.block ?_
    refine GS.seq ?_
    refine GS.know (p := j.b.length ≤ ((c d) 0).2) (fun w hw => ((Cov.all_mem (nins_drop nJ59 c r ((.tail _ (.head _))))).1 w (hw.ok 3 _ rfl)).1) (fun L => ?_)
    refine GS.setMem (mem' := [(1,bag (Jy m n)),(2,.rd e 3 (nrows nR59 c a1)),(3,Ent.all (nins nJ59 c a1)),(5,(Ent.all RLy)),(6,r5 (((c d) 0).1) j.b)]) (fun w hw => Sat.addCov (k0 := 3) hw rfl rfl rfl (Cov.all_mem (nins_drop nJ59 c r (.head _))) rfl) ?_
    refine GS.rg (fun o => [(0,.func (.yield ly) #[] #[]),(4,pA ((o 2).x) 0),(5,.slice e a1.length k),(6,vI (a1.length : Int)),(7,vI (d : Int))]) (fun o => [(1,bag (Jy m n)),(2,.rd e 3 (nrows nR59 c a1)),(3,Ent.all (nins nJ59 c a1)),(5,(Ent.all RLy)),(6,r5 (((c d) 0).1) j.b),(7,.cells ((o 2).x) 59 [vI j.at_,.slice (((c d) 0).1) j.b.length (((c d) 0).2),.pointer none])]) [(0,{ act := .idx 2 d }),(1,{ act := .load 2 d 0 [vI j.at_,.slice (((c d) 0).1) j.b.length (((c d) 0).2),.pointer none] }),(2,{ act := .new .var,key := some 7 }),(3,{ act := .store 0 0 [],key := some 7 })] [0,4,5,6,7] [1,2,3,5,6,7] (fun o => [e = e,a1.length = (nrows nR59 c a1).length,((d : Int) : Int) = (d : Int),d < a1.length,blk e = blk e,offs e + d * 3 = offs e + (d * 3 + 0),(nrows nR59 c a1)[d]? = some [vI j.at_,.slice (((c d) 0).1) j.b.length (((c d) 0).2),.pointer none],(o 2).x = (o 2).x,oC (.agg #[vI j.at_,.slice (((c d) 0).1) j.b.length (((c d) 0).2),.pointer none])]) (fun o => by kernel_rfl) (fun o => ⟨rfl,(nrows_len nR59 c a1).symm,rfl,(drop_lt r),rfl,rfl,nrows_drop nR59 c r,rfl,rfl,trivial⟩) ?_
    intro o
    refine GS.seq ?_
    refine grd_elim hm (fun J hm => ?_)
    refine bnd_elim hm (fun z K hm => ?_)
    refine GS.regionLast 6 2 (env' := fun g => [(0,.func (.yield ly) #[] #[]),(5,.slice e a1.length k),(6,vI (a1.length : Int)),(7,vI (d : Int)),(11,.func (.yield ly) #[] #[]),(13,vI j.at_),(16,.slice ((g 5).ob) j.b.length ((g 5).cap))]) (mem' := fun g => [(1,bag (Jy m n)),(2,.rd e 3 (nrows nR59 c a1)),(3,Ent.all (nins nJ59 c a1)),(5,(Ent.all RLy)),(8,.osl ((g 5).ob) ((g 5).cap) 5 1 (List.map rB j.b))]) [(2,{ act := .load 7 0 0 [] }),(4,{ act := .load 7 0 0 [] }),(5,{ act := .app (some 6),key := some 8,spf := some (fun f => .slice (f.ob) j.b.length (f.cap)) })] [0,5,6,7,11,13,16] [1,2,3,5,8] (fun g => [(o 2).x = (o 2).x,(o 2).x = (o 2).x,(((c d) 0).1) = (((c d) 0).1),j.b.length = (List.map rB j.b).length,0 = 0,0 = 0,(List.map rB j.b).length * (1 + 1) ≤ 70368744177664,((.slice ((g 5).ob) (0 + (List.map rB j.b).length) ((g 5).cap)) : Value) = .slice ((g 5).ob) j.b.length ((g 5).cap)]) (by kernel_rfl) (by kernel_rfl) (by kernel_rfl) (by kernel_rfl) (fun g => by kernel_rfl) (fun g => ⟨rfl,rfl,rfl,mlen rB j.b,rfl,rfl,appb0 J (mlen rB j.b).symm,slen (by rw [(mlen rB j.b).symm,Nat.zero_add]),trivial⟩) ?_
    intro g
    refine GR.conv (mem' := [(1,bag (Jy m n)),(2,.rd e 3 (nrows nR59 c a1)),(3,Ent.all (nins nJ59 c a1)),(5,(Ent.all RLy)),(8,o5 ((g 5).ob) ((g 5).cap) j.b)]) rfl (congrArg (fun rr : List (List Value) => ([(1,bag (Jy m n)),(2,.rd e 3 (nrows nR59 c a1)),(3,Ent.all (nins nJ59 c a1)),(5,(Ent.all RLy)),(8,.osl ((g 5).ob) ((g 5).cap) 5 1 rr)] : List (Nat × Ent))) (show List.map rB j.b = List.map rB j.b from rfl)) ?_
    refine GR.callY (X := Ay) (i := 6) (l := ly) (args := #[vI j.at_,.slice ((g 5).ob) j.b.length ((g 5).cap)]) (v := fun (u : Ay) => .bool z.1) (own := [bag (Jy m n),o5 ((g 5).ob) ((g 5).cap) j.b]) (ro := [Ent.all RLy]) (es' := fun (u : Ay) => [bag (Jy z.2 u)]) (mem' := fun (u : Ay) => [(1,bag (Jy z.2 u)),(2,.rd e 3 (nrows nR59 c a1)),(3,Ent.all (nins nJ59 c a1)),(5,(Ent.all RLy))]) (env' := fun (u : Ay) => [(0,.func (.yield ly) #[] #[]),(5,.slice e a1.length k),(6,vI (a1.length : Int)),(7,vI (d : Int)),(17,.bool z.1)]) [1,8] [1] [0,5,6,7,17] [1,2,3,5] false (by kernel_rfl) (by kernel_rfl) (fun _ => by kernel_rfl) (by kernel_rfl) (by kernel_rfl) (fun _ => rfl) (fun _ _ => rfl) ⟨(.inl ⟨5,_,rfl,rfl,Cov.refl _,fun h => by cases h⟩),trivial⟩ (by rintro u; kernel_rfl) (by rintro u; kernel_rfl) ((by have h1 := hyy m n ((g 5).ob) ((g 5).cap) j.at_ j.b z K; exact h1)) ?_
    rintro u
    refine GR.rM (i := 7) 1 (env' := fun _ => [(0,.func (.yield ly) #[] #[]),(5,.slice e a1.length k),(6,vI (a1.length : Int)),(7,vI (d : Int)),(18,.bool (!z.1))]) (by kernel_rfl) (RunsTo.mk [] [0,5,6,7,18] [1,2,3,5] (fun _ => []) (fun _ => by kernel_rfl) (fun _ => trivial)) ?_
    intro _
    refine GR.dn (by kernel_rfl) ?_
    refine GS.cond (t := !z.1) rfl rfl (fun B => ?_) (fun B => ?_)
    · replace hm := br_t B hm
      have hy := Option.some.inj hm
      subst hy
      refine GS.ret (fn := Try.f26) [] [] [] rfl Try.func26 (by kernel_rfl) trivial (fun w' hs => ?_)
      exact ⟨u,rfl,hs.turnedG (ks := [1]) rfl rfl⟩
    · replace hm := br_f B hm
      refine GS.skip ?_
      refine GS.inBlock ?_
      refine GS.rgM (fun _ => [(0,.func (.yield ly) #[] #[]),(5,.slice e a1.length k),(6,vI (a1.length : Int)),(7,vI ((d + 1 : Nat) : Int))]) [(0,{ sp := some (vI ((d + 1 : Nat) : Int)) })] [0,5,6,7] [1,2,3,5] (fun _ => [((vI (IntKind.i64.wrap ((d : Int) + 1))) : Value) = vI ((d + 1 : Nat) : Int)]) (fun _ => by kernel_rfl) (fun _ => ⟨natw (drop_lt r) D,trivial⟩) ?_
      intro _
      refine GS.inLoop ?_
      refine GS.rekey (env' := [(0,.func (.yield ly) #[] #[]),(5,.slice e a1.length k),(6,vI (a1.length : Int)),(7,vI ((d + 1 : Nat) : Int))]) (mem' := [(1,bag (Jy z.2 u)),(2,.rd e 3 (nrows nR59 c a1)),(3,Ent.all (nins nJ59 c a1)),(5,(Ent.all RLy))]) [0,5,6,7] [(1,1),(2,2),(3,3),(5,5)] (by kernel_rfl) (by kernel_rfl) rfl ?_
      exact C ⟨q,d + 1,z.2,u⟩ ⟨drop_next r,hm⟩ (Nat.lt_succ_self _)

theorem w___extent_Map__Copy (F : Nat) (J : Nat) (c : Hds) (b : List S_extent_run) (d : Int) {y : List S_extent_run × Int} (hm : m___extent_Map__Copy F b d = some y) : CallG Try.prog 18 #[pA J 0] (X := Nat × Hds) (fun ⟨x0,x1⟩ => pA x0 0) [] [Ent.all (sgs 59 nX59 c none b),Ent.all (nins nJ59 c b),.rd (some ⟨J,0,none⟩) 3 ([[.bool true,.pointer (sgp c none b),vI d]] : List (List Value))] (fun ⟨x0,x1⟩ => [bag (sgs 59 nX59 x1 none y.1),bag (nins nI59 x1 y.1),.cells x0 56 [.bool true,.pointer (sgp x1 none y.1),vI y.2]]) := by
  intro w hg
  rw [m___extent_Map__Copy] at hm
  refine GS.start (S := mayT [] [Ent.all (sgs 59 nX59 c none b),Ent.all (nins nJ59 c b),.rd (some ⟨J,0,none⟩) 3 ([[.bool true,.pointer (sgp c none b),vI d]] : List (List Value))]) (mem := [(1,Ent.all (sgs 59 nX59 c none b)),(2,Ent.all (nins nJ59 c b)),(3,.rd (some ⟨J,0,none⟩) 3 ([[.bool true,.pointer (sgp c none b),vI d]] : List (List Value)))]) Try.func18 rfl Try.ntmps18 (Nat.le_of_ble_eq_true rfl) (hg.start rfl) ?_
  refine GS.conv (env' := [(0,pA J 0)]) rfl rfl ?_
  refine GS.seq ?_
  refine GS.rzM (fun _ => [(0,pA J 0)]) [] [0] [1,2,3] (fun _ => by kernel_rfl) ?_
  intro _
  refine GS.seq ?_
  refine GS.seq ?_
  refine bnd_elim hm (fun y3 e4 hm => ?_)
  refine GS.rgM (fun _ => [(0,pA J 0),(9,.bool false)]) [(1,{ act := .call [3] (.bool true) })] [0,9] [1,2,3] (fun _ => [CallOK Try.prog 25 #[pA J 0] (.bool true) [some (.rd (some ⟨J,0,none⟩) 3 ([[.bool true,.pointer (sgp c none b),vI d]] : List (List Value)))]]) (fun _ => by kernel_rfl) (fun _ => ⟨(by have h1 := w___extent_Map__is F J (.pointer (sgp c none b)) d e4; exact h1.ok ⟨(.inl ⟨.rd (some ⟨J,0,none⟩) 3 ([[.bool true,.pointer (sgp c none b),vI d]] : List (List Value)),.head _,Cov.refl _⟩),trivial⟩),trivial⟩) ?_
  intro _
  refine GS.cond (t := false) rfl rfl (fun hf => by cases hf) (fun _ => ?_)
  refine GS.skip ?_
  refine GS.seq ?_
  refine bnd_elim hm (fun y6 e7 hm => ?_)
  refine GS.open_ ?_
  refine GR.callG (X := Nat) (i := 0) (g := 8) (ro := []) (mem' := fun (x8 : Nat) => [(1,Ent.all (sgs 59 nX59 c none b)),(2,Ent.all (nins nJ59 c b)),(3,.rd (some ⟨J,0,none⟩) 3 ([[.bool true,.pointer (sgp c none b),vI d]] : List (List Value))),(4,.cells x8 56 [.bool true,.pointer none,vI y6])]) (env' := fun (x8 : Nat) => [(0,pA J 0),(10,pA x8 0)]) [] [4] [0,10] [1,2,3,4] false (by kernel_rfl) (by kernel_rfl) (by kernel_rfl) (by kernel_rfl) (by kernel_rfl) (fun _ => rfl) (fun _ _ => rfl) trivial (by rintro x8; kernel_rfl) (by rintro x8; kernel_rfl) (w_extent_New F  e7) ?_
  rintro x8
  refine GR.rM (i := 1) 1 (env' := fun _ => [(0,pA J 0),(3,pA x8 0)]) (by kernel_rfl) (RunsTo.mk [] [0,3] [1,2,3,4] (fun _ => []) (fun _ => by kernel_rfl) (fun _ => trivial)) ?_
  intro _
  refine GR.dn (by kernel_rfl) ?_
  refine GS.seq ?_
  refine GS.rg (fun _ => [(0,pA J 0),(3,pA x8 0)]) (fun _ => [(1,Ent.all (sgs 59 nX59 c none b)),(2,Ent.all (nins nJ59 c b)),(3,.rd (some ⟨J,0,none⟩) 3 ([[.bool true,.pointer (sgp c none b),vI d]] : List (List Value))),(4,.cells x8 56 [.bool true,.pointer none,vI d])]) [(4,{ act := .load 3 0 2 [.bool true,.pointer (sgp c none b),vI d] }),(7,{ act := .store 0 0 [],key := some 4 })] [0,3] [1,2,3,4] (fun _ => [J = blk (some ⟨J,0,none⟩),2 = offs (some ⟨J,0,none⟩) + (0 * 3 + 2),([[.bool true,.pointer (sgp c none b),vI d]] : List (List Value))[0]? = some [.bool true,.pointer (sgp c none b),vI d],x8 = x8,oC (vI d)]) (fun _ => by kernel_rfl) (fun _ => ⟨rfl,rfl,rfl,rfl,rfl,trivial⟩) ?_
  intro _
  refine GS.seq ?_
  refine GS.rg (fun n => [(0,pA J 0),(3,pA x8 0),(4,pA ((n 3).x) 0)]) (fun n => [(1,Ent.all (sgs 59 nX59 c none b)),(2,Ent.all (nins nJ59 c b)),(3,.rd (some ⟨J,0,none⟩) 3 ([[.bool true,.pointer (sgp c none b),vI d]] : List (List Value))),(4,.cells x8 56 [.bool true,.pointer none,vI d]),(5,.cells ((n 3).x) 60 [pA x8 1])]) [(3,{ act := .new .var,key := some 5 }),(4,{ act := .store 0 0 [],key := some 5 })] [0,3,4] [1,2,3,4,5] (fun n => [(n 3).x = (n 3).x,oC (pA x8 1)]) (fun n => by kernel_rfl) (fun n => ⟨rfl,rfl,trivial⟩) ?_
  intro n
  refine GS.seq ?_
  refine GS.seq ?_
  refine bnd_elim hm (fun G ah hm => ?_)
  refine GS.open_ ?_
  refine GR.rM (i := 0) 1 (env' := fun _ => [(3,pA x8 0),(4,pA ((n 3).x) 0),(21,pA J 0)]) (by kernel_rfl) (RunsTo.mk [] [3,4,21] [1,2,3,4,5] (fun _ => []) (fun _ => by kernel_rfl) (fun _ => trivial)) ?_
  intro _
  refine GR.callG (X := Nat × Option Addr × Nat × Hds) (i := 1) (g := 16) (ro := [Ent.all (sgs 59 nX59 c none b),Ent.all (nins nJ59 c b),.rd (some ⟨J,0,none⟩) 3 ([[.bool true,.pointer (sgp c none b),vI d]] : List (List Value))]) (mem' := fun ⟨W,O,Q,P⟩ => [(1,Ent.all (sgs 59 nX59 c none b)),(2,Ent.all (nins nJ59 c b)),(3,.rd (some ⟨J,0,none⟩) 3 ([[.bool true,.pointer (sgp c none b),vI d]] : List (List Value))),(4,.cells x8 56 [.bool true,.pointer none,vI d]),(5,.cells ((n 3).x) 60 [pA x8 1]),(6,.osl O Q 59 3 (nrows nR59 P G)),(7,bag (nins nI59 P G)),(8,.cells W 61 [.slice O G.length Q])]) (env' := fun ⟨W,O,Q,P⟩ => [(3,pA x8 0),(4,pA ((n 3).x) 0),(22,.func (.func 26) #[] #[pA W 0])]) [] [6,7,8] [3,4,22] [1,2,3,4,5,6,7,8] false (by kernel_rfl) (by kernel_rfl) (by kernel_rfl) (by kernel_rfl) (by kernel_rfl) (fun _ => rfl) (fun _ _ => rfl) ⟨(.inl ⟨1,_,rfl,rfl,Cov.refl _,fun h => by cases h⟩),(.inl ⟨2,_,rfl,rfl,Cov.refl _,fun h => by cases h⟩),(.inl ⟨3,_,rfl,rfl,Cov.refl _,fun h => by cases h⟩),trivial⟩ (by rintro ⟨W,O,Q,P⟩; kernel_rfl) (by rintro ⟨W,O,Q,P⟩; kernel_rfl) (w___extent_Map__Extents F J c b d ah) ?_
  rintro ⟨W,O,Q,P⟩
  refine GR.dn (by kernel_rfl) ?_
  refine GS.block ?_
  refine bnd_elim hm (fun z ai hm => ?_)
  refine GS.setMem (mem' := [(1,Ent.all (sgs 59 nX59 c none b)),(2,Ent.all (nins nJ59 c b)),(3,.rd (some ⟨J,0,none⟩) 3 ([[.bool true,.pointer (sgp c none b),vI d]] : List (List Value))),(4,.cells x8 56 [.bool true,.pointer none,vI d]),(5,.cells ((n 3).x) 60 [pA x8 1]),(6,.osl O Q 59 3 (nrows nR59 P G)),(7,bag (nins nI59 P G)),(8,.cells W 61 [.slice O G.length Q]),(20004,bag [])]) (fun w hw => Sat.addEmp hw (emp_bag (fun e he => by cases he)) rfl) ?_
  refine GS.setMem (mem' := [(1,Ent.all (sgs 59 nX59 c none b)),(2,Ent.all (nins nJ59 c b)),(3,.rd (some ⟨J,0,none⟩) 3 ([[.bool true,.pointer (sgp c none b),vI d]] : List (List Value))),(4,.cells x8 56 [.bool true,.pointer none,vI d]),(5,.cells ((n 3).x) 60 [pA x8 1]),(6,.osl O Q 59 3 (nrows nR59 P G)),(7,bag (nins nI59 P G)),(8,.cells W 61 [.slice O G.length Q]),(20004,bag []),(20005,bag [])]) (fun w hw => Sat.addEmp hw (emp_bag (fun e he => by cases he)) rfl) ?_
  refine GS.setMem (mem' := [(1,Ent.all (sgs 59 nX59 c none b)),(2,Ent.all (nins nJ59 c b)),(3,.rd (some ⟨J,0,none⟩) 3 ([[.bool true,.pointer (sgp c none b),vI d]] : List (List Value))),(4,.cells x8 56 [.bool true,.pointer none,vI d]),(5,.cells ((n 3).x) 60 [pA x8 1]),(6,.osl O Q 59 3 (nrows nR59 P G)),(7,bag (nins nI59 P G)),(8,.cells W 61 [.slice O G.length Q]),(20004,bag []),(20005,bag []),(20006,bag [])]) (fun w hw => Sat.addEmp hw (emp_bag (fun e he => by cases he)) rfl) ?_
  refine GS.setMem (mem' := [(1,Ent.all (sgs 59 nX59 c none b)),(2,Ent.all (nins nJ59 c b)),(3,.rd (some ⟨J,0,none⟩) 3 ([[.bool true,.pointer (sgp c none b),vI d]] : List (List Value))),(4,.cells x8 56 [.bool true,.pointer none,vI d]),(5,.cells ((n 3).x) 60 [pA x8 1]),(6,.osl O Q 59 3 (nrows nR59 P G)),(7,bag (nins nI59 P G)),(8,.cells W 61 [.slice O G.length Q]),(20004,bag []),(20005,bag []),(20006,bag []),(20007,o5 none 0 ([] : List UInt8))]) (fun w hw => Sat.addNil hw rfl) ?_
  refine GS.rekey (env' := [(3,pA x8 0),(4,pA ((n 3).x) 0),(22,.func (.func 26) #[] #[pA W 0])]) (mem' := [(1,Ent.all (sgs 59 nX59 c none b)),(2,Ent.all (nins nJ59 c b)),(3,.rd (some ⟨J,0,none⟩) 3 ([[.bool true,.pointer (sgp c none b),vI d]] : List (List Value))),(4,.cells x8 56 [.bool true,.pointer none,vI d]),(5,.cells ((n 3).x) 60 [pA x8 1]),(6,.osl O Q 59 3 (nrows nR59 P G)),(7,bag (nins nI59 P G)),(8,.cells W 61 [.slice O G.length Q]),(20000,bag []),(20001,bag []),(20002,bag []),(20003,o5 none 0 ([] : List UInt8))]) [3,4,22] [(1,1),(2,2),(3,3),(4,4),(5,5),(6,6),(7,7),(8,8),(20000,20004),(20001,20005),(20002,20006),(20003,20007)] (by kernel_rfl) (by kernel_rfl) rfl ?_
  refine GS.setMem (mem' := [(1,Ent.all (sgs 59 nX59 c none b)),(2,Ent.all (nins nJ59 c b)),(3,.rd (some ⟨J,0,none⟩) 3 ([[.bool true,.pointer (sgp c none b),vI d]] : List (List Value))),(4,.cells x8 56 [.bool true,.pointer none,vI d]),(5,.cells ((n 3).x) 60 [pA x8 1]),(6,.osl O Q 59 3 (nrows nR59 P G)),(7,bag (nins nI59 P G)),(8,.cells W 61 [.slice O G.length Q]),(20000,bag []),(20001,bag []),(20002,bag []),(20003,o5 none 0 ([] : List UInt8)),(700020,Ent.all [])]) (fun w hw => Sat.addAll hw [] rfl rfl rfl) ?_
  refine GS.rangeFuncG (τ := Nat × List S_extent_run × Int × List UInt8) (A := Hds × Nat × Option Addr × Nat) 500002 500003 [4,5,20000,20001,20002,20003] [1,2,3,4,5,6,7,8,20000,20001,20002,20003] (fun t a => [(bif t.1 == 0 then .cells x8 56 [.bool true,.pointer none,vI d] else .cells x8 56 [.bool true,.pointer (sgp a.1 (some ⟨a.2.1,0,none⟩) t.2.1),vI d]),(bif t.1 == 0 then .cells ((n 3).x) 60 [pA x8 1] else .cells ((n 3).x) 60 [pA (a.2.1) 2]),(bif t.1 == 0 then bag [] else bag (sgs 59 nX59 a.1 (some ⟨a.2.1,0,none⟩) t.2.1)),(bif t.1 == 0 then bag [] else .cells a.2.1 59 [vI t.2.2.1,.slice a.2.2.1 t.2.2.2.length a.2.2.2,.pointer none]),(bif t.1 == 0 then bag [] else bag (nins nI59 a.1 t.2.1)),(bif t.1 == 0 then o5 none 0 ([] : List UInt8) else o5 a.2.2.1 a.2.2.2 t.2.2.2)]) (fun t => none) (0,([],0,[])) z ((fun _ => nilH),0,none,0) (mem' := fun a => [(1,Ent.all (sgs 59 nX59 c none b)),(2,Ent.all (nins nJ59 c b)),(3,.rd (some ⟨J,0,none⟩) 3 ([[.bool true,.pointer (sgp c none b),vI d]] : List (List Value))),(4,(bif z.1 == 0 then .cells x8 56 [.bool true,.pointer none,vI d] else .cells x8 56 [.bool true,.pointer (sgp a.1 (some ⟨a.2.1,0,none⟩) z.2.1),vI d])),(5,(bif z.1 == 0 then .cells ((n 3).x) 60 [pA x8 1] else .cells ((n 3).x) 60 [pA (a.2.1) 2])),(6,.osl O Q 59 3 (nrows nR59 P G)),(7,bag (nins nI59 P G)),(8,.cells W 61 [.slice O G.length Q]),(20000,(bif z.1 == 0 then bag [] else bag (sgs 59 nX59 a.1 (some ⟨a.2.1,0,none⟩) z.2.1))),(20001,(bif z.1 == 0 then bag [] else .cells a.2.1 59 [vI z.2.2.1,.slice a.2.2.1 z.2.2.2.length a.2.2.2,.pointer none])),(20002,(bif z.1 == 0 then bag [] else bag (nins nI59 a.1 z.2.1))),(20003,(bif z.1 == 0 then o5 none 0 ([] : List UInt8) else o5 a.2.2.1 a.2.2.2 z.2.2.2))]) (RL := []) (itro := [.rd O 3 (nrows nR59 P G),Ent.all (nins nJ59 P G),.rd (some ⟨W,0,none⟩) 1 ([[.slice O G.length Q]] : List (List Value))]) (vv := .tuple #[]) rfl rfl rfl (fun _ _ => rfl) ⟨rfl,rfl,rfl⟩ rfl (fun _ => ⟨rfl,rfl⟩) rfl rfl (by kernel_rfl) rfl (fun t _ => by (try dsimp only); cases (t.1 == 0) <;> rfl) (fun _ => rfl) ⟨(.inl ⟨6,_,rfl,rfl,Cov.osl_rd,fun h => by cases h⟩),(.inl ⟨7,_,rfl,rfl,(Cov.bag_all (nins_cov nC59 _ _)),fun h => by cases h⟩),(.inl ⟨8,_,rfl,rfl,Cov.cells_rd,fun h => by cases h⟩),(.inl ⟨700020,_,rfl,rfl,Cov.refl _,fun h => by cases h⟩),trivial⟩ (fun a => by kernel_rfl) ?_ ?_
  · intro H V L ad
    refine w___extent_Map__Extents_1 F (rfBag H V L (fun t => none) (fun t a => [(bif t.1 == 0 then .cells x8 56 [.bool true,.pointer none,vI d] else .cells x8 56 [.bool true,.pointer (sgp a.1 (some ⟨a.2.1,0,none⟩) t.2.1),vI d]),(bif t.1 == 0 then .cells ((n 3).x) 60 [pA x8 1] else .cells ((n 3).x) 60 [pA (a.2.1) 2]),(bif t.1 == 0 then bag [] else bag (sgs 59 nX59 a.1 (some ⟨a.2.1,0,none⟩) t.2.1)),(bif t.1 == 0 then bag [] else .cells a.2.1 59 [vI t.2.2.1,.slice a.2.2.1 t.2.2.2.length a.2.2.2,.pointer none]),(bif t.1 == 0 then bag [] else bag (nins nI59 a.1 t.2.1)),(bif t.1 == 0 then o5 none 0 ([] : List UInt8) else o5 a.2.2.1 a.2.2.2 t.2.2.2)])) [] H (fun (t : Nat × List S_extent_run × Int × List UInt8) (x : Int × List UInt8) => bif t.1 == 0 then (fun (aj : Int × List UInt8) => match aj with | (B,v) => some (true,(1,(([] : List S_extent_run),B,v)))) x else grd (t.1 = 1) ((fun (ak : List S_extent_run × Int × List UInt8) => match ak with | (f,p,r) => (fun (al : Int × List UInt8) => match al with | (B,v) => some (true,(1,((f ++ [(S_extent_run.mk p r)]),B,v)))) x) t.2)) (fun t a l m B v y hm => ?_) (0,([],0,[])) ((fun _ => nilH),0,none,0) W O Q P G ai
    obtain ⟨j0,⟨f,p,r⟩⟩ := t
    obtain ⟨o,j,s,u⟩ := a
    try dsimp only at hm
    refine br_elim hm (fun h0 hm => ?_) (fun h0 hm => ?_)
    · skip
      replace h0 : j0 = 0 := eq_of_beq h0
      subst h0
      try dsimp only at hm
      refine ad (X := Hds × Nat × Option Addr × Nat) (0,(f,p,r)) (o,j,s,u) #[vI B,.slice l v.length m] (fun _ => .bool y.1) [o5 l m v] (fun a' => [bag (rfBag H V L (fun t => none) (fun t a => [(bif t.1 == 0 then .cells x8 56 [.bool true,.pointer none,vI d] else .cells x8 56 [.bool true,.pointer (sgp a.1 (some ⟨a.2.1,0,none⟩) t.2.1),vI d]),(bif t.1 == 0 then .cells ((n 3).x) 60 [pA x8 1] else .cells ((n 3).x) 60 [pA (a.2.1) 2]),(bif t.1 == 0 then bag [] else bag (sgs 59 nX59 a.1 (some ⟨a.2.1,0,none⟩) t.2.1)),(bif t.1 == 0 then bag [] else .cells a.2.1 59 [vI t.2.2.1,.slice a.2.2.1 t.2.2.2.length a.2.2.2,.pointer none]),(bif t.1 == 0 then bag [] else bag (nins nI59 a.1 t.2.1)),(bif t.1 == 0 then o5 none 0 ([] : List UInt8) else o5 a.2.2.1 a.2.2.2 t.2.2.2)]) y.2 a')]) rfl rfl (fun w => ?_)
      refine GS.rekey (env' := [(4,pA ((n 3).x) 0),(23,vI B),(24,.slice l v.length m)]) (mem' := [(700030,bag (rfBag H V L (fun t => none) (fun t a => [(bif t.1 == 0 then .cells x8 56 [.bool true,.pointer none,vI d] else .cells x8 56 [.bool true,.pointer (sgp a.1 (some ⟨a.2.1,0,none⟩) t.2.1),vI d]),(bif t.1 == 0 then .cells ((n 3).x) 60 [pA x8 1] else .cells ((n 3).x) 60 [pA (a.2.1) 2]),(bif t.1 == 0 then bag [] else bag (sgs 59 nX59 a.1 (some ⟨a.2.1,0,none⟩) t.2.1)),(bif t.1 == 0 then bag [] else .cells a.2.1 59 [vI t.2.2.1,.slice a.2.2.1 t.2.2.2.length a.2.2.2,.pointer none]),(bif t.1 == 0 then bag [] else bag (nins nI59 a.1 t.2.1)),(bif t.1 == 0 then o5 none 0 ([] : List UInt8) else o5 a.2.2.1 a.2.2.2 t.2.2.2)]) (0,(f,p,r)) (o,j,s,u))),(700031,o5 l m v),(700032,Ent.all [])]) [4,23,24] [(700030,1),(700031,2),(700032,3)] (by kernel_rfl) (by kernel_rfl) rfl ?_
      refine GS.setMem (mem' := [(4,.cells x8 56 [.bool true,.pointer none,vI d]),(5,.cells ((n 3).x) 60 [pA x8 1]),(20000,bag []),(20001,bag []),(20002,bag []),(20003,o5 none 0 ([] : List UInt8)),(500002,blkD V),(500003,.obj H (.loop (recRd L))),(700031,o5 l m v),(700032,Ent.all [])]) (fun w hw => unbag_mem (k := 700030) (nk := [500002,500003,4,5,20000,20001,20002,20003]) (keys := [4,5,20000,20001,20002,20003,500002,500003,700031,700032]) hw rfl rfl rfl rfl (by kernel_rfl)) ?_
      refine GS.rekey (env' := [(4,pA ((n 3).x) 0),(23,vI B),(24,.slice l v.length m)]) (mem' := [(4,.cells x8 56 [.bool true,.pointer none,vI d]),(5,.cells ((n 3).x) 60 [pA x8 1]),(20000,bag []),(20001,bag []),(20002,bag []),(20003,o5 none 0 ([] : List UInt8)),(20004,o5 l m v),(500002,blkD V),(500003,.obj H (.loop (recRd L)))]) [4,23,24] [(4,4),(5,5),(20000,20000),(20001,20001),(20002,20002),(20003,20003),(20004,700031),(500002,500002),(500003,500003)] (by kernel_rfl) (by kernel_rfl) rfl ?_
      refine GS.seq ?_
      refine GS.rz (fun _ => [(4,pA ((n 3).x) 0),(5,vI B),(24,.slice l v.length m)]) (fun _ => [(4,.cells x8 56 [.bool true,.pointer none,vI d]),(5,.cells ((n 3).x) 60 [pA x8 1]),(20000,bag []),(20001,bag []),(20002,bag []),(20004,o5 l m v),(500002,blkD V),(500003,.obj H (.loop (recRd L)))]) [] [4,5,24] [4,5,20000,20001,20002,20004,500002,500003] (fun _ => by kernel_rfl) ?_
      intro _
      refine GS.rzM (fun _ => [(4,pA ((n 3).x) 0),(5,vI B),(6,.slice l v.length m)]) [] [4,5,6] [4,5,20000,20001,20002,20004,500002,500003] (fun _ => by kernel_rfl) ?_
      intro _
      refine GS.beginRound 500003 rfl rfl rfl rfl ?_
      refine GS.conv (mem' := [(4,.cells x8 56 [.bool true,.pointer none,vI d]),(5,.cells ((n 3).x) 60 [pA x8 1]),(20000,bag []),(20001,bag []),(20002,bag []),(20004,o5 l m v),(500002,blkD V),(500003,.obj H (.loop (recBz L)))]) rfl rfl ?_
      refine GS.block ?_
      refine GS.seq ?_
      refine GS.rg (fun C => [(4,pA ((n 3).x) 0)]) (fun C => [(4,.cells x8 56 [.bool true,pA ((C 4).x) 0,vI d]),(5,.cells ((n 3).x) 60 [pA x8 1]),(20000,bag []),(20001,bag []),(20002,bag []),(20004,o5 l m v),(20005,.cells ((C 4).x) 59 [vI B,.slice l v.length m,.pointer none]),(500002,blkD V),(500003,.obj H (.loop (recBz L)))]) [(0,{ act := .load 5 0 0 [] }),(4,{ act := .new .var,key := some 20005 }),(6,{ act := .store 0 0 [],key := some 4 })] [4] [4,5,20000,20001,20002,20004,20005,500002,500003] (fun C => [(n 3).x = (n 3).x,x8 = x8,oC (pA ((C 4).x) 0)]) (fun C => by kernel_rfl) (fun C => ⟨rfl,rfl,rfl,trivial⟩) ?_
      intro C
      refine GS.rg (fun _ => []) (fun _ => [(4,.cells x8 56 [.bool true,pA ((C 4).x) 0,vI d]),(5,.cells ((n 3).x) 60 [pA ((C 4).x) 2]),(20000,bag []),(20001,bag []),(20002,bag []),(20004,o5 l m v),(20005,.cells ((C 4).x) 59 [vI B,.slice l v.length m,.pointer none]),(500002,blkD V),(500003,.obj H (.loop (recBz L)))]) [(0,{ act := .load 5 0 0 [] }),(2,{ act := .load 4 0 0 [] }),(5,{ act := .store 0 0 [],key := some 5 })] [] [4,5,20000,20001,20002,20004,20005,500002,500003] (fun _ => [(n 3).x = (n 3).x,x8 = x8,(n 3).x = (n 3).x,oC (pA ((C 4).x) 2)]) (fun _ => by kernel_rfl) (fun _ => ⟨rfl,rfl,rfl,rfl,trivial⟩) ?_
      intro _
      refine GS.inBlock ?_
      refine GS.setMem (mem' := [(4,.cells x8 56 [.bool true,pA ((C 4).x) 0,vI d]),(5,.cells ((n 3).x) 60 [pA ((C 4).x) 2]),(20000,bag []),(20001,bag []),(20002,bag []),(20004,o5 l m v),(20005,.cells ((C 4).x) 59 [vI B,.slice l v.length m,.pointer none]),(20006,bag (sgs 59 nX59 (fun _ => nilH) (some ⟨(C 4).x,0,none⟩) ([] : List S_extent_run))),(20007,bag (nins nI59 (fun _ => nilH) ([] : List S_extent_run))),(500002,blkD V),(500003,.obj H (.loop (recBz L)))]) (fun w hw => ch_nilO (α := S_extent_run) (k := 20006) (ik := 20007) (T := 59) (X := nX59) (h := fun _ => nilH) (q := some ⟨(C 4).x,0,none⟩) (Ji := nI59) (h2 := fun _ => nilH) [4,5,20000,20001,20002,20004,20005,20006,20007,500002,500003] hw (by kernel_rfl)) ?_
      refine GS.conv (env' := []) (mem' := [(4,.cells x8 56 [.bool true,.pointer (sgp (fun _ => nilH) (some ⟨(C 4).x,0,none⟩) ([] : List S_extent_run)),vI d]),(5,.cells ((n 3).x) 60 [pA ((C 4).x) 2]),(20000,bag []),(20001,bag []),(20002,bag []),(20004,o5 l m v),(20005,.cells ((C 4).x) 59 [vI B,.slice l v.length m,.pointer none]),(20006,bag (sgs 59 nX59 (fun _ => nilH) (some ⟨(C 4).x,0,none⟩) ([] : List S_extent_run))),(20007,bag (nins nI59 (fun _ => nilH) ([] : List S_extent_run))),(500002,blkD V),(500003,.obj H (.loop (recBz L)))]) (rfl) (rfl) ?_
      have hy := Option.some.inj hm
      subst hy
      refine GS.rekey (env' := []) (mem' := [(4,.cells x8 56 [.bool true,.pointer (sgp (fun _ => nilH) (some ⟨(C 4).x,0,none⟩) ([] : List S_extent_run)),vI d]),(5,.cells ((n 3).x) 60 [pA ((C 4).x) 2]),(20000,bag (sgs 59 nX59 (fun _ => nilH) (some ⟨(C 4).x,0,none⟩) ([] : List S_extent_run))),(20001,.cells ((C 4).x) 59 [vI B,.slice l v.length m,.pointer none]),(20002,bag (nins nI59 (fun _ => nilH) ([] : List S_extent_run))),(20003,o5 l m v),(500002,blkD V),(500003,.obj H (.loop (recBz L)))]) [] [(4,4),(5,5),(20000,20006),(20001,20005),(20002,20007),(20003,20004),(500002,500002),(500003,500003)] (by kernel_rfl) (by kernel_rfl) rfl ?_
      refine GS.roundEnd 500003 rfl rfl rfl rfl rfl (fun w' hs => ⟨((fun _ => nilH),(C 4).x,l,m),rfl,TurnsG.bag (es' := [blkD V,.obj H (.loop (recRd L)),.cells x8 56 [.bool true,.pointer (sgp (fun _ => nilH) (some ⟨(C 4).x,0,none⟩) ([] : List S_extent_run)),vI d],.cells ((n 3).x) 60 [pA ((C 4).x) 2],bag (sgs 59 nX59 (fun _ => nilH) (some ⟨(C 4).x,0,none⟩) ([] : List S_extent_run)),.cells ((C 4).x) 59 [vI B,.slice l v.length m,.pointer none],bag (nins nI59 (fun _ => nilH) ([] : List S_extent_run)),o5 l m v]) (hs.turnedG (ks := [500002,500003,4,5,20000,20001,20002,20003]) rfl rfl) rfl⟩)
    · skip
      clear h0
      refine grd_elim hm (fun h0 hq => ?_)
      clear hm
      replace h0 : j0 = 1 := h0
      subst h0
      have hm := hq
      clear hq
      try dsimp only at hm
      refine ad (X := Hds × Nat × Option Addr × Nat) (1,(f,p,r)) (o,j,s,u) #[vI B,.slice l v.length m] (fun _ => .bool y.1) [o5 l m v] (fun a' => [bag (rfBag H V L (fun t => none) (fun t a => [(bif t.1 == 0 then .cells x8 56 [.bool true,.pointer none,vI d] else .cells x8 56 [.bool true,.pointer (sgp a.1 (some ⟨a.2.1,0,none⟩) t.2.1),vI d]),(bif t.1 == 0 then .cells ((n 3).x) 60 [pA x8 1] else .cells ((n 3).x) 60 [pA (a.2.1) 2]),(bif t.1 == 0 then bag [] else bag (sgs 59 nX59 a.1 (some ⟨a.2.1,0,none⟩) t.2.1)),(bif t.1 == 0 then bag [] else .cells a.2.1 59 [vI t.2.2.1,.slice a.2.2.1 t.2.2.2.length a.2.2.2,.pointer none]),(bif t.1 == 0 then bag [] else bag (nins nI59 a.1 t.2.1)),(bif t.1 == 0 then o5 none 0 ([] : List UInt8) else o5 a.2.2.1 a.2.2.2 t.2.2.2)]) y.2 a')]) rfl rfl (fun w => ?_)
      refine GS.rekey (env' := [(4,pA ((n 3).x) 0),(23,vI B),(24,.slice l v.length m)]) (mem' := [(700030,bag (rfBag H V L (fun t => none) (fun t a => [(bif t.1 == 0 then .cells x8 56 [.bool true,.pointer none,vI d] else .cells x8 56 [.bool true,.pointer (sgp a.1 (some ⟨a.2.1,0,none⟩) t.2.1),vI d]),(bif t.1 == 0 then .cells ((n 3).x) 60 [pA x8 1] else .cells ((n 3).x) 60 [pA (a.2.1) 2]),(bif t.1 == 0 then bag [] else bag (sgs 59 nX59 a.1 (some ⟨a.2.1,0,none⟩) t.2.1)),(bif t.1 == 0 then bag [] else .cells a.2.1 59 [vI t.2.2.1,.slice a.2.2.1 t.2.2.2.length a.2.2.2,.pointer none]),(bif t.1 == 0 then bag [] else bag (nins nI59 a.1 t.2.1)),(bif t.1 == 0 then o5 none 0 ([] : List UInt8) else o5 a.2.2.1 a.2.2.2 t.2.2.2)]) (1,(f,p,r)) (o,j,s,u))),(700031,o5 l m v),(700032,Ent.all [])]) [4,23,24] [(700030,1),(700031,2),(700032,3)] (by kernel_rfl) (by kernel_rfl) rfl ?_
      refine GS.setMem (mem' := [(4,.cells x8 56 [.bool true,.pointer (sgp o (some ⟨j,0,none⟩) f),vI d]),(5,.cells ((n 3).x) 60 [pA j 2]),(20000,bag (sgs 59 nX59 o (some ⟨j,0,none⟩) f)),(20001,.cells j 59 [vI p,.slice s r.length u,.pointer none]),(20002,bag (nins nI59 o f)),(20003,o5 s u r),(500002,blkD V),(500003,.obj H (.loop (recRd L))),(700031,o5 l m v),(700032,Ent.all [])]) (fun w hw => unbag_mem (k := 700030) (nk := [500002,500003,4,5,20000,20001,20002,20003]) (keys := [4,5,20000,20001,20002,20003,500002,500003,700031,700032]) hw rfl rfl rfl rfl (by kernel_rfl)) ?_
      refine GS.rekey (env' := [(4,pA ((n 3).x) 0),(23,vI B),(24,.slice l v.length m)]) (mem' := [(4,.cells x8 56 [.bool true,.pointer (sgp o (some ⟨j,0,none⟩) f),vI d]),(5,.cells ((n 3).x) 60 [pA j 2]),(20000,bag (sgs 59 nX59 o (some ⟨j,0,none⟩) f)),(20001,.cells j 59 [vI p,.slice s r.length u,.pointer none]),(20002,bag (nins nI59 o f)),(20003,o5 s u r),(20004,o5 l m v),(500002,blkD V),(500003,.obj H (.loop (recRd L)))]) [4,23,24] [(4,4),(5,5),(20000,20000),(20001,20001),(20002,20002),(20003,20003),(20004,700031),(500002,500002),(500003,500003)] (by kernel_rfl) (by kernel_rfl) rfl ?_
      refine GS.seq ?_
      refine GS.rzM (fun _ => [(4,pA ((n 3).x) 0),(5,vI B),(24,.slice l v.length m)]) [] [4,5,24] [4,5,20000,20001,20002,20003,20004,500002,500003] (fun _ => by kernel_rfl) ?_
      intro _
      refine GS.rzM (fun _ => [(4,pA ((n 3).x) 0),(5,vI B),(6,.slice l v.length m)]) [] [4,5,6] [4,5,20000,20001,20002,20003,20004,500002,500003] (fun _ => by kernel_rfl) ?_
      intro _
      refine GS.beginRound 500003 rfl rfl rfl rfl ?_
      refine GS.conv (mem' := [(4,.cells x8 56 [.bool true,.pointer (sgp o (some ⟨j,0,none⟩) f),vI d]),(5,.cells ((n 3).x) 60 [pA j 2]),(20000,bag (sgs 59 nX59 o (some ⟨j,0,none⟩) f)),(20001,.cells j 59 [vI p,.slice s r.length u,.pointer none]),(20002,bag (nins nI59 o f)),(20003,o5 s u r),(20004,o5 l m v),(500002,blkD V),(500003,.obj H (.loop (recBz L)))]) rfl rfl ?_
      refine GS.block ?_
      refine GS.seq ?_
      refine GS.rg (fun D => [(4,pA ((n 3).x) 0)]) (fun D => [(4,.cells x8 56 [.bool true,.pointer (sgp o (some ⟨j,0,none⟩) f),vI d]),(5,.cells ((n 3).x) 60 [pA j 2]),(20000,bag (sgs 59 nX59 o (some ⟨j,0,none⟩) f)),(20001,.cells j 59 [vI p,.slice s r.length u,pA ((D 4).x) 0]),(20002,bag (nins nI59 o f)),(20003,o5 s u r),(20004,o5 l m v),(20005,.cells ((D 4).x) 59 [vI B,.slice l v.length m,.pointer none]),(500002,blkD V),(500003,.obj H (.loop (recBz L)))]) [(0,{ act := .load 5 0 0 [] }),(4,{ act := .new .var,key := some 20005 }),(6,{ act := .store 0 0 [],key := some 20001 })] [4] [4,5,20000,20001,20002,20003,20004,20005,500002,500003] (fun D => [(n 3).x = (n 3).x,j = j,oC (pA ((D 4).x) 0)]) (fun D => by kernel_rfl) (fun D => ⟨rfl,rfl,rfl,trivial⟩) ?_
      intro D
      refine GS.rg (fun _ => []) (fun _ => [(4,.cells x8 56 [.bool true,.pointer (sgp o (some ⟨j,0,none⟩) f),vI d]),(5,.cells ((n 3).x) 60 [pA ((D 4).x) 2]),(20000,bag (sgs 59 nX59 o (some ⟨j,0,none⟩) f)),(20001,.cells j 59 [vI p,.slice s r.length u,pA ((D 4).x) 0]),(20002,bag (nins nI59 o f)),(20003,o5 s u r),(20004,o5 l m v),(20005,.cells ((D 4).x) 59 [vI B,.slice l v.length m,.pointer none]),(500002,blkD V),(500003,.obj H (.loop (recBz L)))]) [(0,{ act := .load 5 0 0 [] }),(2,{ act := .load 20001 0 0 [] }),(5,{ act := .store 0 0 [],key := some 5 })] [] [4,5,20000,20001,20002,20003,20004,20005,500002,500003] (fun _ => [(n 3).x = (n 3).x,j = j,(n 3).x = (n 3).x,oC (pA ((D 4).x) 2)]) (fun _ => by kernel_rfl) (fun _ => ⟨rfl,rfl,rfl,rfl,trivial⟩) ?_
      intro _
      refine GS.inBlock ?_
      refine GS.setMem (mem' := [(4,.cells x8 56 [.bool true,.pointer (sgp o (some ⟨j,0,none⟩) f),vI d]),(5,.cells ((n 3).x) 60 [pA ((D 4).x) 2]),(20000,bag (sgs 59 nX59 (glueH f.length o (fun _ => mkH s u j)) (some ⟨(D 4).x,0,none⟩) (f ++ [(S_extent_run.mk p r)]))),(20002,bag (nins nI59 (glueH f.length o (fun _ => mkH s u j)) (f ++ [(S_extent_run.mk p r)]))),(20004,o5 l m v),(20005,.cells ((D 4).x) 59 [vI B,.slice l v.length m,.pointer none]),(500002,blkD V),(500003,.obj H (.loop (recBz L)))]) (fun w hw => ch_addO (K := 20000) (N := 20001) (I := 20002) (KR := 20003) (ob := s) (cap := u) (nb := j) (q := some ⟨(D 4).x,0,none⟩) (x := S_extent_run.mk p r) (er := o5 s u r) [4,5,20000,20002,20004,20005,500002,500003] hw rfl rfl rfl rfl rfl rfl rfl rfl rfl rfl rfl rfl (by kernel_rfl)) ?_
      refine GS.conv (env' := []) (mem' := [(4,.cells x8 56 [.bool true,.pointer (sgp (glueH f.length o (fun _ => mkH s u j)) (some ⟨(D 4).x,0,none⟩) (f ++ [(S_extent_run.mk p r)])),vI d]),(5,.cells ((n 3).x) 60 [pA ((D 4).x) 2]),(20000,bag (sgs 59 nX59 (glueH f.length o (fun _ => mkH s u j)) (some ⟨(D 4).x,0,none⟩) (f ++ [(S_extent_run.mk p r)]))),(20002,bag (nins nI59 (glueH f.length o (fun _ => mkH s u j)) (f ++ [(S_extent_run.mk p r)]))),(20004,o5 l m v),(20005,.cells ((D 4).x) 59 [vI B,.slice l v.length m,.pointer none]),(500002,blkD V),(500003,.obj H (.loop (recBz L)))]) (rfl) (by first | rfl | (rw [sgp_snoc (ob := s) (cap := u) (q := some ⟨(D 4).x,0,none⟩) (x := S_extent_run.mk p r)] <;> rfl)) ?_
      have hy := Option.some.inj hm
      subst hy
      refine GS.rekey (env' := []) (mem' := [(4,.cells x8 56 [.bool true,.pointer (sgp (glueH f.length o (fun _ => mkH s u j)) (some ⟨(D 4).x,0,none⟩) (f ++ [(S_extent_run.mk p r)])),vI d]),(5,.cells ((n 3).x) 60 [pA ((D 4).x) 2]),(20000,bag (sgs 59 nX59 (glueH f.length o (fun _ => mkH s u j)) (some ⟨(D 4).x,0,none⟩) (f ++ [(S_extent_run.mk p r)]))),(20001,.cells ((D 4).x) 59 [vI B,.slice l v.length m,.pointer none]),(20002,bag (nins nI59 (glueH f.length o (fun _ => mkH s u j)) (f ++ [(S_extent_run.mk p r)]))),(20003,o5 l m v),(500002,blkD V),(500003,.obj H (.loop (recBz L)))]) [] [(4,4),(5,5),(20000,20000),(20001,20005),(20002,20002),(20003,20004),(500002,500002),(500003,500003)] (by kernel_rfl) (by kernel_rfl) rfl ?_
      refine GS.roundEnd 500003 rfl rfl rfl rfl rfl (fun w' hs => ⟨((glueH f.length o (fun _ => mkH s u j)),(D 4).x,l,m),rfl,TurnsG.bag (es' := [blkD V,.obj H (.loop (recRd L)),.cells x8 56 [.bool true,.pointer (sgp (glueH f.length o (fun _ => mkH s u j)) (some ⟨(D 4).x,0,none⟩) (f ++ [(S_extent_run.mk p r)])),vI d],.cells ((n 3).x) 60 [pA ((D 4).x) 2],bag (sgs 59 nX59 (glueH f.length o (fun _ => mkH s u j)) (some ⟨(D 4).x,0,none⟩) (f ++ [(S_extent_run.mk p r)])),.cells ((D 4).x) 59 [vI B,.slice l v.length m,.pointer none],bag (nins nI59 (glueH f.length o (fun _ => mkH s u j)) (f ++ [(S_extent_run.mk p r)])),o5 l m v]) (hs.turnedG (ks := [500002,500003,4,5,20000,20001,20002,20003]) rfl rfl) rfl⟩)
  intro ac a
  obtain ⟨U,R,Y,Z⟩ := a
  refine GS.rekey (env' := [(3,pA x8 0),(4,pA ((n 3).x) 0),(22,.func (.func 26) #[] #[pA W 0])]) (mem' := [(1,Ent.all (sgs 59 nX59 c none b)),(2,Ent.all (nins nJ59 c b)),(3,.rd (some ⟨J,0,none⟩) 3 ([[.bool true,.pointer (sgp c none b),vI d]] : List (List Value))),(4,(bif z.1 == 0 then .cells x8 56 [.bool true,.pointer none,vI d] else .cells x8 56 [.bool true,.pointer (sgp U (some ⟨R,0,none⟩) z.2.1),vI d])),(5,(bif z.1 == 0 then .cells ((n 3).x) 60 [pA x8 1] else .cells ((n 3).x) 60 [pA R 2])),(6,.osl O Q 59 3 (nrows nR59 P G)),(7,bag (nins nI59 P G)),(8,.cells W 61 [.slice O G.length Q]),(20000,(bif z.1 == 0 then bag [] else bag (sgs 59 nX59 U (some ⟨R,0,none⟩) z.2.1))),(20001,(bif z.1 == 0 then bag [] else .cells R 59 [vI z.2.2.1,.slice Y z.2.2.2.length Z,.pointer none])),(20002,(bif z.1 == 0 then bag [] else bag (nins nI59 U z.2.1))),(20003,(bif z.1 == 0 then o5 none 0 ([] : List UInt8) else o5 Y Z z.2.2.2)),(500002,blkD ac)]) [3,4,22] [(1,1),(2,2),(3,3),(4,4),(5,5),(6,6),(7,7),(8,8),(20000,20000),(20001,20001),(20002,20002),(20003,20003),(500002,500002)] (by kernel_rfl) (by kernel_rfl) rfl ?_
  refine jn_elim hm (fun am af hm => ?_)
  refine GS.cutJ (ι := List S_extent_run × Hds) (I := fun ⟨aa,ab⟩ => am aa = some y) (E := fun ⟨aa,ab⟩ => [(3,pA x8 0)]) (M := fun ⟨aa,ab⟩ => [(4,.cells x8 56 [.bool true,.pointer (sgp ab none aa),vI d]),(9,bag (sgs 59 nX59 ab none aa)),(10,bag (nins nI59 ab aa)),(500002,blkD ac)]) ?_ ?_
  rotate_left
  · intro ag
    refine br_elim hm (fun ae hm => ?_) (fun ae hm => ?_)
    · skip
      refine GS.jmpN ?_
      refine GS.conv (mem' := [(1,Ent.all (sgs 59 nX59 c none b)),(2,Ent.all (nins nJ59 c b)),(3,.rd (some ⟨J,0,none⟩) 3 ([[.bool true,.pointer (sgp c none b),vI d]] : List (List Value))),(4,.cells x8 56 [.bool true,.pointer none,vI d]),(5,.cells ((n 3).x) 60 [pA x8 1]),(6,.osl O Q 59 3 (nrows nR59 P G)),(7,bag (nins nI59 P G)),(8,.cells W 61 [.slice O G.length Q]),(20000,bag []),(20001,bag []),(20002,bag []),(20003,o5 none 0 ([] : List UInt8)),(500002,blkD ac)]) rfl (congrArg (fun cc : Bool => ([(1,Ent.all (sgs 59 nX59 c none b)),(2,Ent.all (nins nJ59 c b)),(3,.rd (some ⟨J,0,none⟩) 3 ([[.bool true,.pointer (sgp c none b),vI d]] : List (List Value))),(4,(bif cc then .cells x8 56 [.bool true,.pointer none,vI d] else .cells x8 56 [.bool true,.pointer (sgp U (some ⟨R,0,none⟩) z.2.1),vI d])),(5,(bif cc then .cells ((n 3).x) 60 [pA x8 1] else .cells ((n 3).x) 60 [pA R 2])),(6,.osl O Q 59 3 (nrows nR59 P G)),(7,bag (nins nI59 P G)),(8,.cells W 61 [.slice O G.length Q]),(20000,(bif cc then bag [] else bag (sgs 59 nX59 U (some ⟨R,0,none⟩) z.2.1))),(20001,(bif cc then bag [] else .cells R 59 [vI z.2.2.1,.slice Y z.2.2.2.length Z,.pointer none])),(20002,(bif cc then bag [] else bag (nins nI59 U z.2.1))),(20003,(bif cc then o5 none 0 ([] : List UInt8) else o5 Y Z z.2.2.2)),(500002,blkD ac)] : List (Nat × Ent))) ae) ?_
      refine GS.rekey (env' := [(3,pA x8 0)]) (mem' := [(4,.cells x8 56 [.bool true,.pointer none,vI d]),(500002,blkD ac)]) [3] [(4,4),(500002,500002)] (by kernel_rfl) (by kernel_rfl) rfl ?_
      refine GS.setMem (mem' := [(4,.cells x8 56 [.bool true,.pointer none,vI d]),(9,bag (sgs 59 nX59 (fun _ => nilH) none ([] : List S_extent_run))),(10,bag (nins nI59 (fun _ => nilH) ([] : List S_extent_run))),(500002,blkD ac)]) (fun w hw => ch_nilO (α := S_extent_run) (k := 9) (ik := 10) (T := 59) (X := nX59) (h := fun _ => nilH) (q := none) (Ji := nI59) (h2 := fun _ => nilH) [4,9,10,500002] hw (by kernel_rfl)) ?_
      refine GS.conv (env' := [(3,pA x8 0)]) (mem' := [(4,.cells x8 56 [.bool true,.pointer (sgp (fun _ => nilH) none ([] : List S_extent_run)),vI d]),(9,bag (sgs 59 nX59 (fun _ => nilH) none ([] : List S_extent_run))),(10,bag (nins nI59 (fun _ => nilH) ([] : List S_extent_run))),(500002,blkD ac)]) (rfl) (rfl) ?_
      refine GS.rekey (env' := [(3,pA x8 0)]) (mem' := [(4,.cells x8 56 [.bool true,.pointer (sgp (fun _ => nilH) none ([] : List S_extent_run)),vI d]),(9,bag (sgs 59 nX59 (fun _ => nilH) none ([] : List S_extent_run))),(10,bag (nins nI59 (fun _ => nilH) ([] : List S_extent_run))),(500002,blkD ac)]) [3] [(4,4),(9,9),(10,10),(500002,500002)] (by kernel_rfl) (by kernel_rfl) rfl ?_
      exact ag ⟨([] : List S_extent_run),(fun _ => nilH)⟩ hm
    · skip
      refine GS.conv (mem' := [(1,Ent.all (sgs 59 nX59 c none b)),(2,Ent.all (nins nJ59 c b)),(3,.rd (some ⟨J,0,none⟩) 3 ([[.bool true,.pointer (sgp c none b),vI d]] : List (List Value))),(4,.cells x8 56 [.bool true,.pointer (sgp U (some ⟨R,0,none⟩) z.2.1),vI d]),(5,.cells ((n 3).x) 60 [pA R 2]),(6,.osl O Q 59 3 (nrows nR59 P G)),(7,bag (nins nI59 P G)),(8,.cells W 61 [.slice O G.length Q]),(20000,bag (sgs 59 nX59 U (some ⟨R,0,none⟩) z.2.1)),(20001,.cells R 59 [vI z.2.2.1,.slice Y z.2.2.2.length Z,.pointer none]),(20002,bag (nins nI59 U z.2.1)),(20003,o5 Y Z z.2.2.2),(500002,blkD ac)]) rfl (congrArg (fun cc : Bool => ([(1,Ent.all (sgs 59 nX59 c none b)),(2,Ent.all (nins nJ59 c b)),(3,.rd (some ⟨J,0,none⟩) 3 ([[.bool true,.pointer (sgp c none b),vI d]] : List (List Value))),(4,(bif cc then .cells x8 56 [.bool true,.pointer none,vI d] else .cells x8 56 [.bool true,.pointer (sgp U (some ⟨R,0,none⟩) z.2.1),vI d])),(5,(bif cc then .cells ((n 3).x) 60 [pA x8 1] else .cells ((n 3).x) 60 [pA R 2])),(6,.osl O Q 59 3 (nrows nR59 P G)),(7,bag (nins nI59 P G)),(8,.cells W 61 [.slice O G.length Q]),(20000,(bif cc then bag [] else bag (sgs 59 nX59 U (some ⟨R,0,none⟩) z.2.1))),(20001,(bif cc then bag [] else .cells R 59 [vI z.2.2.1,.slice Y z.2.2.2.length Z,.pointer none])),(20002,(bif cc then bag [] else bag (nins nI59 U z.2.1))),(20003,(bif cc then o5 none 0 ([] : List UInt8) else o5 Y Z z.2.2.2)),(500002,blkD ac)] : List (Nat × Ent))) ae) ?_
      refine GS.jmpN ?_
      refine GS.rekey (env' := [(3,pA x8 0)]) (mem' := [(4,.cells x8 56 [.bool true,.pointer (sgp U (some ⟨R,0,none⟩) z.2.1),vI d]),(20000,bag (sgs 59 nX59 U (some ⟨R,0,none⟩) z.2.1)),(20001,.cells R 59 [vI z.2.2.1,.slice Y z.2.2.2.length Z,.pointer none]),(20002,bag (nins nI59 U z.2.1)),(20003,o5 Y Z z.2.2.2),(500002,blkD ac)]) [3] [(4,4),(20000,20000),(20001,20001),(20002,20002),(20003,20003),(500002,500002)] (by kernel_rfl) (by kernel_rfl) rfl ?_
      refine GS.setMem (mem' := [(4,.cells x8 56 [.bool true,.pointer (sgp U (some ⟨R,0,none⟩) z.2.1),vI d]),(20000,bag (sgs 59 nX59 (glueH z.2.1.length U (fun _ => mkH Y Z R)) none (z.2.1 ++ [(S_extent_run.mk z.2.2.1 z.2.2.2)]))),(20002,bag (nins nI59 (glueH z.2.1.length U (fun _ => mkH Y Z R)) (z.2.1 ++ [(S_extent_run.mk z.2.2.1 z.2.2.2)]))),(500002,blkD ac)]) (fun w hw => ch_addO (K := 20000) (N := 20001) (I := 20002) (KR := 20003) (ob := Y) (cap := Z) (nb := R) (q := none) (x := S_extent_run.mk z.2.2.1 z.2.2.2) (er := o5 Y Z z.2.2.2) [4,20000,20002,500002] hw rfl rfl rfl rfl rfl rfl rfl rfl rfl rfl rfl rfl (by kernel_rfl)) ?_
      refine GS.conv (env' := [(3,pA x8 0)]) (mem' := [(4,.cells x8 56 [.bool true,.pointer (sgp (glueH z.2.1.length U (fun _ => mkH Y Z R)) none (z.2.1 ++ [(S_extent_run.mk z.2.2.1 z.2.2.2)])),vI d]),(20000,bag (sgs 59 nX59 (glueH z.2.1.length U (fun _ => mkH Y Z R)) none (z.2.1 ++ [(S_extent_run.mk z.2.2.1 z.2.2.2)]))),(20002,bag (nins nI59 (glueH z.2.1.length U (fun _ => mkH Y Z R)) (z.2.1 ++ [(S_extent_run.mk z.2.2.1 z.2.2.2)]))),(500002,blkD ac)]) (rfl) (by first | rfl | (rw [sgp_snoc (ob := Y) (cap := Z) (q := none) (x := S_extent_run.mk z.2.2.1 z.2.2.2)] <;> rfl)) ?_
      refine GS.rekey (env' := [(3,pA x8 0)]) (mem' := [(4,.cells x8 56 [.bool true,.pointer (sgp (glueH z.2.1.length U (fun _ => mkH Y Z R)) none (z.2.1 ++ [(S_extent_run.mk z.2.2.1 z.2.2.2)])),vI d]),(9,bag (sgs 59 nX59 (glueH z.2.1.length U (fun _ => mkH Y Z R)) none (z.2.1 ++ [(S_extent_run.mk z.2.2.1 z.2.2.2)]))),(10,bag (nins nI59 (glueH z.2.1.length U (fun _ => mkH Y Z R)) (z.2.1 ++ [(S_extent_run.mk z.2.2.1 z.2.2.2)]))),(500002,blkD ac)]) [3] [(4,4),(9,20000),(10,20002),(500002,500002)] (by kernel_rfl) (by kernel_rfl) rfl ?_
      exact ag ⟨(z.2.1 ++ [(S_extent_run.mk z.2.2.1 z.2.2.2)]),(glueH z.2.1.length U (fun _ => mkH Y Z R))⟩ hm
  · rintro ⟨aa,ab⟩ hm
    replace hm := (af _).symm.trans hm
    try dsimp only at hm
    refine GS.inBlock ?_
    refine GS.seq ?_
    refine GS.rzM (fun _ => [(2,pA x8 0)]) [] [2] [4,9,10,500002] (fun _ => by kernel_rfl) ?_
    intro _
    have hy := Option.some.inj hm
    subst hy
    refine GS.retD (mem2 := [(4,.cells x8 56 [.bool true,.pointer (sgp ab none aa),vI d]),(9,bag (sgs 59 nX59 ab none aa)),(10,bag (nins nI59 ab aa))]) (fn := Try.f18) [(500002,ac)] [0] [4,9,10] [pA x8 0] [] rfl rfl Try.func18 rfl rfl rfl (by kernel_rfl) (by kernel_rfl) trivial (fun w' hs => ?_)
    exact ⟨⟨x8,ab⟩,rfl,hs.turnedG (ks := [9,10,4]) rfl rfl⟩

theorem w___extent_Map__may (F : Nat) (e : Nat) (a : Value) (b : Int) (a1 : Int) (a2 : Int) {y : Int} (hm : m___extent_Map__may F b a1 a2 = some y) : CallG Try.prog 22 #[pA e 0,vI a1,vI a2] (X := Unit) (fun (_ : Unit) => vI y) [] [.rd (some ⟨e,0,none⟩) 3 ([[.bool true,a,vI b]] : List (List Value))] (fun (_ : Unit) => []) := by
  intro w hg
  rw [m___extent_Map__may] at hm
  refine GS.start (S := mayT [] [.rd (some ⟨e,0,none⟩) 3 ([[.bool true,a,vI b]] : List (List Value))]) (mem := [(1,.rd (some ⟨e,0,none⟩) 3 ([[.bool true,a,vI b]] : List (List Value)))]) Try.func22 rfl Try.ntmps22 (Nat.le_of_ble_eq_true rfl) (hg.start rfl) ?_
  refine GS.conv (env' := [(0,pA e 0),(1,vI a1),(2,vI a2)]) rfl rfl ?_
  refine GS.seq ?_
  refine GS.rzM (fun _ => [(0,pA e 0),(1,vI a1),(2,vI a2)]) [] [0,1,2] [1] (fun _ => by kernel_rfl) ?_
  intro _
  refine GS.seq ?_
  refine GS.block ?_
  refine GS.seq ?_
  refine bnd_elim hm (fun y3 e4 hm => ?_)
  refine GS.rg (fun _ => [(1,vI a1),(2,vI a2),(7,.bool false)]) (fun _ => []) [(1,{ act := .call [1] (.bool true) })] [1,2,7] [] (fun _ => [CallOK Try.prog 25 #[pA e 0] (.bool true) [some (.rd (some ⟨e,0,none⟩) 3 ([[.bool true,a,vI b]] : List (List Value)))]]) (fun _ => by kernel_rfl) (fun _ => ⟨(by have h1 := w___extent_Map__is F e a b e4; exact h1.ok ⟨(.inl ⟨.rd (some ⟨e,0,none⟩) 3 ([[.bool true,a,vI b]] : List (List Value)),.head _,Cov.refl _⟩),trivial⟩),trivial⟩) ?_
  intro _
  refine GS.cond (t := false) rfl rfl (fun hf => by cases hf) (fun _ => ?_)
  refine GS.seq ?_
  refine jn_elim hm (fun J7 k hm => ?_)
  refine GS.cut (ι := Bool) (I := fun (c : Bool) => J7 c = some y) (E := fun (c : Bool) => [(1,vI a1),(2,vI a2),(11,.bool c)]) (M := fun (c : Bool) => []) ?_ ?_
  rotate_left
  · intro H8
    refine br_elim hm (fun h6 hm => ?_) (fun h6 hm => ?_)
    · skip
      refine GS.rgM (fun _ => [(1,vI a1),(2,vI a2),(11,.bool true)]) [(2,{ sp := some (.bool true) })] [1,2,11] [] (fun _ => [((.bool (decide (a1 < 0))) : Value) = .bool true]) (fun _ => by kernel_rfl) (fun _ => ⟨bool_eq h6,trivial⟩) ?_
      intro _
      refine GS.rekey (env' := [(1,vI a1),(2,vI a2),(11,.bool true)]) (mem' := []) [1,2,11] [] (by kernel_rfl) (by kernel_rfl) rfl ?_
      exact H8 true hm
    · skip
      refine GS.rgM (fun _ => [(1,vI a1),(2,vI a2),(11,.bool (decide (a2 < 0)))]) [(2,{ sp := some (.bool false) })] [1,2,11] [] (fun _ => [((.bool (decide (a1 < 0))) : Value) = .bool false]) (fun _ => by kernel_rfl) (fun _ => ⟨bool_eq h6,trivial⟩) ?_
      intro _
      refine GS.rekey (env' := [(1,vI a1),(2,vI a2),(11,.bool (decide (a2 < 0)))]) (mem' := []) [1,2,11] [] (by kernel_rfl) (by kernel_rfl) rfl ?_
      exact H8 (decide (a2 < 0)) hm
  · rintro c hm
    replace hm := (k _).symm.trans hm
    try dsimp only at hm
    refine GS.cond (t := c) rfl rfl (fun f => ?_) (fun f => ?_)
    · replace hm := br_t f hm
      refine GS.seq ?_
      refine GS.rzM (fun _ => [(6,vI 22)]) [] [6] [] (fun _ => by kernel_rfl) ?_
      intro _
      have hy := Option.some.inj hm
      subst hy
      refine GS.ret (fn := Try.f22) [0] [vI 22] [] rfl Try.func22 (by kernel_rfl) trivial (fun w' hs => ?_)
      exact ⟨(),rfl,hs.turnedG (ks := []) rfl rfl⟩
    · replace hm := br_f f hm
      refine GS.seq ?_
      refine jn_elim hm (fun l i hm => ?_)
      refine GS.cut (ι := Bool) (I := fun (d : Bool) => l d = some y) (E := fun (d : Bool) => [(18,.bool d)]) (M := fun (d : Bool) => []) ?_ ?_
      rotate_left
      · intro j
        refine br_elim hm (fun g hm => ?_) (fun g hm => ?_)
        · skip
          refine GS.rgM (fun _ => [(18,.bool true)]) [(2,{ sp := some (.bool true) })] [18] [] (fun _ => [((.bool (decide (a1 > 4096))) : Value) = .bool true]) (fun _ => by kernel_rfl) (fun _ => ⟨bool_eq g,trivial⟩) ?_
          intro _
          refine GS.rekey (env' := [(18,.bool true)]) (mem' := []) [18] [] (by kernel_rfl) (by kernel_rfl) rfl ?_
          exact j true hm
        · skip
          refine grd_elim hm (fun m hm => ?_)
          refine GS.rgM (fun _ => [(18,.bool (decide (a2 > (4096 - a1))))]) [(2,{ sp := some (.bool false) }),(5,{ sp := some (vI (4096 - a1)) })] [18] [] (fun _ => [((.bool (decide (a1 > 4096))) : Value) = .bool false,oW (4096 - a1)]) (fun _ => by kernel_rfl) (fun _ => ⟨bool_eq g,I64.w m,trivial⟩) ?_
          intro _
          refine GS.rekey (env' := [(18,.bool (decide (a2 > (4096 - a1))))]) (mem' := []) [18] [] (by kernel_rfl) (by kernel_rfl) rfl ?_
          exact j (decide (a2 > (4096 - a1))) hm
      · rintro d hm
        replace hm := (i _).symm.trans hm
        try dsimp only at hm
        refine GS.cond (t := d) rfl rfl (fun h => ?_) (fun h => ?_)
        · replace hm := br_t h hm
          refine GS.seq ?_
          refine GS.rzM (fun _ => [(6,vI 27)]) [] [6] [] (fun _ => by kernel_rfl) ?_
          intro _
          have hy := Option.some.inj hm
          subst hy
          refine GS.ret (fn := Try.f22) [0] [vI 27] [] rfl Try.func22 (by kernel_rfl) trivial (fun w' hs => ?_)
          exact ⟨(),rfl,hs.turnedG (ks := []) rfl rfl⟩
        · replace hm := br_f h hm
          refine GS.skip ?_
          refine GS.inBlock ?_
          refine GS.seq ?_
          refine GS.rzM (fun _ => [(6,vI 0)]) [] [6] [] (fun _ => by kernel_rfl) ?_
          intro _
          have hy := Option.some.inj hm
          subst hy
          refine GS.ret (fn := Try.f22) [0] [vI 0] [] rfl Try.func22 (by kernel_rfl) trivial (fun w' hs => ?_)
          exact ⟨(),rfl,hs.turnedG (ks := []) rfl rfl⟩

theorem w___extent_run__end (F : Nat) (f : Nat) (b : Int) (c : Option Addr) (e : Nat) (d : List UInt8) (a : Value) {y : Int} (hm : m___extent_run__end F b d = some y) : CallG Try.prog 24 #[pA f 0] (X := Unit) (fun (_ : Unit) => vI y) [] [r5 c d,.rd (some ⟨f,0,none⟩) 3 ([[vI b,.slice c d.length e,a]] : List (List Value))] (fun (_ : Unit) => []) := by
  intro w hg
  rw [m___extent_run__end] at hm
  refine GS.start (S := mayT [] [r5 c d,.rd (some ⟨f,0,none⟩) 3 ([[vI b,.slice c d.length e,a]] : List (List Value))]) (mem := [(1,r5 c d),(2,.rd (some ⟨f,0,none⟩) 3 ([[vI b,.slice c d.length e,a]] : List (List Value)))]) Try.func24 rfl Try.ntmps24 (Nat.le_of_ble_eq_true rfl) (hg.start rfl) ?_
  refine GS.conv (env' := [(0,pA f 0)]) rfl rfl ?_
  refine GS.seq ?_
  refine GS.rzM (fun _ => [(0,pA f 0)]) [] [0] [1,2] (fun _ => by kernel_rfl) ?_
  intro _
  refine GS.seq ?_
  refine grd_elim hm (fun g3 hm => ?_)
  refine GS.region (env' := fun _ => [(2,vI (b + (d.length : Int)))]) (mem' := fun _ => []) (RunsTo.mkd [(3,{ act := .load 2 0 0 [vI b,.slice c d.length e,a] }),(7,{ act := .load 2 0 1 [vI b,.slice c d.length e,a] }),(9,{ sp := some (vI (b + (d.length : Int))) })] [2] [] (fun _ => [f = blk (some ⟨f,0,none⟩),0 = offs (some ⟨f,0,none⟩) + (0 * 3 + 0),([[vI b,.slice c d.length e,a]] : List (List Value))[0]? = some [vI b,.slice c d.length e,a],f = blk (some ⟨f,0,none⟩),1 = offs (some ⟨f,0,none⟩) + (0 * 3 + 1),([[vI b,.slice c d.length e,a]] : List (List Value))[0]? = some [vI b,.slice c d.length e,a],oW (b + (d.length : Int))]) (by kernel_rfl) (by kernel_rfl) (fun _ => by kernel_rfl) (fun _ => ⟨rfl,rfl,rfl,rfl,rfl,rfl,I64.w g3,trivial⟩)) ?_
  intro _
  have hy := Option.some.inj hm
  subst hy
  refine GS.ret (fn := Try.f24) [0] [vI (b + (d.length : Int))] [] rfl Try.func24 (by kernel_rfl) trivial (fun w' hs => ?_)
  exact ⟨(),rfl,hs.turnedG (ks := []) rfl rfl⟩

theorem w___extent_Map__clear_1 (F : Nat) (a0 : Int) (b : Option Addr) (f : Nat) (a1 : List UInt8) (d : Nat) (a : Nat) (c : Int) {y : Int × Int} (hm : m___extent_Map__clear_1 F a0 a1 c = some y) : CallG Try.prog 34 #[vI a0,.slice b a1.length f,pA d 0] (X := Nat) (fun (x0 : Nat) => .tuple #[]) [.cells a 56 [.bool true,.pointer none,vI c],.cells d 60 [pA a 1]] [r5 b a1] (fun (x0 : Nat) => [.cells a 56 [.bool true,pA x0 0,vI y.2],.cells d 60 [pA x0 2],.cells x0 59 [vI y.1,.slice b a1.length f,.pointer none]]) := by
  intro w hg
  rw [m___extent_Map__clear_1] at hm
  refine GS.start (S := mayT [.cells a 56 [.bool true,.pointer none,vI c],.cells d 60 [pA a 1]] [r5 b a1]) (mem := [(1,.cells a 56 [.bool true,.pointer none,vI c]),(2,.cells d 60 [pA a 1]),(3,r5 b a1)]) Try.func34 rfl Try.ntmps34 (Nat.le_of_ble_eq_true rfl) (hg.start rfl) ?_
  refine GS.conv (env' := [(0,vI a0),(1,.slice b a1.length f),(2,pA d 0)]) rfl rfl ?_
  refine GS.seq ?_
  refine GS.rzM (fun _ => [(0,vI a0),(1,.slice b a1.length f),(2,pA d 0),(7,.bool (decide ((a1.length : Int) > 0)))]) [] [0,1,2,7] [1,2,3] (fun _ => by kernel_rfl) ?_
  intro _
  refine grd_elim hm (fun g2 hm => ?_)
  refine GS.cond (t := decide ((a1.length : Int) > 0)) rfl rfl (fun _ => ?_) (fun h3 => absb (g2) h3)
  refine GS.seq ?_
  refine GS.rg (fun e => [(2,pA d 0)]) (fun e => [(1,.cells a 56 [.bool true,pA ((e 4).x) 0,vI c]),(2,.cells d 60 [pA a 1]),(3,r5 b a1),(4,.cells ((e 4).x) 59 [vI a0,.slice b a1.length f,.pointer none])]) [(0,{ act := .load 2 0 0 [] }),(4,{ act := .new .var,key := some 4 }),(6,{ act := .store 0 0 [],key := some 1 })] [2] [1,2,3,4] (fun e => [d = d,a = a,oC (pA ((e 4).x) 0)]) (fun e => by kernel_rfl) (fun e => ⟨rfl,rfl,rfl,trivial⟩) ?_
  intro e
  refine GS.rg (fun _ => []) (fun _ => [(1,.cells a 56 [.bool true,pA ((e 4).x) 0,vI c]),(2,.cells d 60 [pA ((e 4).x) 2]),(3,r5 b a1),(4,.cells ((e 4).x) 59 [vI a0,.slice b a1.length f,.pointer none])]) [(0,{ act := .load 2 0 0 [] }),(2,{ act := .load 1 0 0 [] }),(5,{ act := .store 0 0 [],key := some 2 })] [] [1,2,3,4] (fun _ => [d = d,a = a,d = d,oC (pA ((e 4).x) 2)]) (fun _ => by kernel_rfl) (fun _ => ⟨rfl,rfl,rfl,rfl,trivial⟩) ?_
  intro _
  have hy := Option.some.inj hm
  subst hy
  refine GS.end_ (fn := Try.f34) [] [] [] rfl Try.func34 (by kernel_rfl) trivial (fun w' hs => ?_)
  exact ⟨((e 4).x),rfl,hs.turnedG (ks := [1,2,4]) rfl rfl⟩

theorem w___extent_Map__clear_1_2 (F : Nat) (a0 : Int) (e : Option Addr) (i : Nat) (a1 : List UInt8) (g : Nat) (c : Nat) (f : Int) (a : Option Addr) (d : Nat) (b : List UInt8) {y : Int × Int} (hm : m___extent_Map__clear_1_2 F a0 a1 f b = some y) : CallG Try.prog 34 #[vI a0,.slice e a1.length i,pA g 0] (X := Nat) (fun (x0 : Nat) => .tuple #[]) [.cells c 59 [vI f,.slice a b.length d,.pointer none],.cells g 60 [pA c 2]] [r5 e a1,r5 a b] (fun (x0 : Nat) => [.cells c 59 [vI y.1,.slice a b.length d,pA x0 0],.cells g 60 [pA x0 2],.cells x0 59 [vI y.2,.slice e a1.length i,.pointer none]]) := by
  intro w hg
  rw [m___extent_Map__clear_1_2] at hm
  refine GS.start (S := mayT [.cells c 59 [vI f,.slice a b.length d,.pointer none],.cells g 60 [pA c 2]] [r5 e a1,r5 a b]) (mem := [(1,.cells c 59 [vI f,.slice a b.length d,.pointer none]),(2,.cells g 60 [pA c 2]),(3,r5 e a1),(4,r5 a b)]) Try.func34 rfl Try.ntmps34 (Nat.le_of_ble_eq_true rfl) (hg.start rfl) ?_
  refine GS.conv (env' := [(0,vI a0),(1,.slice e a1.length i),(2,pA g 0)]) rfl rfl ?_
  refine GS.seq ?_
  refine GS.rzM (fun _ => [(0,vI a0),(1,.slice e a1.length i),(2,pA g 0),(7,.bool (decide ((a1.length : Int) > 0)))]) [] [0,1,2,7] [1,2,3,4] (fun _ => by kernel_rfl) ?_
  intro _
  refine grd_elim hm (fun g2 hm => ?_)
  refine GS.cond (t := decide ((a1.length : Int) > 0)) rfl rfl (fun _ => ?_) (fun h3 => absb (g2) h3)
  refine GS.seq ?_
  refine GS.rg (fun h => [(2,pA g 0)]) (fun h => [(1,.cells c 59 [vI f,.slice a b.length d,pA ((h 4).x) 0]),(2,.cells g 60 [pA c 2]),(3,r5 e a1),(4,r5 a b),(5,.cells ((h 4).x) 59 [vI a0,.slice e a1.length i,.pointer none])]) [(0,{ act := .load 2 0 0 [] }),(4,{ act := .new .var,key := some 5 }),(6,{ act := .store 0 0 [],key := some 1 })] [2] [1,2,3,4,5] (fun h => [g = g,c = c,oC (pA ((h 4).x) 0)]) (fun h => by kernel_rfl) (fun h => ⟨rfl,rfl,rfl,trivial⟩) ?_
  intro h
  refine GS.rg (fun _ => []) (fun _ => [(1,.cells c 59 [vI f,.slice a b.length d,pA ((h 4).x) 0]),(2,.cells g 60 [pA ((h 4).x) 2]),(3,r5 e a1),(4,r5 a b),(5,.cells ((h 4).x) 59 [vI a0,.slice e a1.length i,.pointer none])]) [(0,{ act := .load 2 0 0 [] }),(2,{ act := .load 1 0 0 [] }),(5,{ act := .store 0 0 [],key := some 2 })] [] [1,2,3,4,5] (fun _ => [g = g,c = c,g = g,oC (pA ((h 4).x) 2)]) (fun _ => by kernel_rfl) (fun _ => ⟨rfl,rfl,rfl,rfl,trivial⟩) ?_
  intro _
  have hy := Option.some.inj hm
  subst hy
  refine GS.end_ (fn := Try.f34) [] [] [] rfl Try.func34 (by kernel_rfl) trivial (fun w' hs => ?_)
  exact ⟨((h 4).x),rfl,hs.turnedG (ks := [1,2,5]) rfl rfl⟩

end Go.Proofs.Ytmdfkklldbfocaa
