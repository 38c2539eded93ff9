/-
  CHAPTER 05y: the functions do what their models say (8).
-/
import Derived.Test.YtmdfkklldbfocaaM05y
import Derived.Test.YtmdfkklldbfocaaW05ya
import Derived.Test.YtmdfkklldbfocaaW05ye
import Derived.Test.YtmdfkklldbfocaaW05yg
set_option linter.unusedVariables false
set_option linter.unusedSimpArgs false
set_option maxRecDepth 100000
set_option maxHeartbeats 8000000
namespace Go.Proofs.Ytmdfkklldbfocaa
open Go Go.RowKit Sx

theorem w_tholelaw05_runs (F : Nat) (a9 : Nat) (W : Hds) (V : List S_extent_run) (au : Int) (a2 : Nat) (aa : Option Addr) (am : Nat) (ad : List UInt8) (ac : Option Addr) (aq : Nat) (ag : List Bool) {y : Bool} (hm : m_tholelaw05_runs F V au ad ag = some y) : CallG Try.prog 21 #[pA a9 0,pA a2 0] (X := Unit) (fun (_ : Unit) => .bool y) [] [Ent.all (sgs 59 nX59 W none V),Ent.all (nins nJ59 W V),.rd (some ⟨a9,0,none⟩) 3 ([[.bool true,.pointer (sgp W none V),vI au]] : List (List Value)),r5 aa ad,r4 ac ag,.rd (some ⟨a2,0,none⟩) 2 ([[.slice aa ad.length am,.slice ac ag.length aq]] : List (List Value))] (fun (_ : Unit) => []) := by
  intro w hg
  rw [m_tholelaw05_runs] at hm
  refine GS.start (S := mayT [] [Ent.all (sgs 59 nX59 W none V),Ent.all (nins nJ59 W V),.rd (some ⟨a9,0,none⟩) 3 ([[.bool true,.pointer (sgp W none V),vI au]] : List (List Value)),r5 aa ad,r4 ac ag,.rd (some ⟨a2,0,none⟩) 2 ([[.slice aa ad.length am,.slice ac ag.length aq]] : List (List Value))]) (mem := [(1,Ent.all (sgs 59 nX59 W none V)),(2,Ent.all (nins nJ59 W V)),(3,.rd (some ⟨a9,0,none⟩) 3 ([[.bool true,.pointer (sgp W none V),vI au]] : List (List Value))),(4,r5 aa ad),(5,r4 ac ag),(6,.rd (some ⟨a2,0,none⟩) 2 ([[.slice aa ad.length am,.slice ac ag.length aq]] : List (List Value)))]) Try.func21 rfl Try.ntmps21 (Nat.le_of_ble_eq_true rfl) (hg.start rfl) ?_
  refine GS.conv (env' := [(0,pA a9 0),(1,pA a2 0)]) rfl rfl ?_
  refine GS.seq ?_
  refine GS.rz (fun o => [(0,pA a9 0),(1,pA a2 0),(4,pA ((o 0).x) 0)]) (fun o => [(1,Ent.all (sgs 59 nX59 W none V)),(2,Ent.all (nins nJ59 W V)),(3,.rd (some ⟨a9,0,none⟩) 3 ([[.bool true,.pointer (sgp W none V),vI au]] : List (List Value))),(4,r5 aa ad),(5,r4 ac ag),(6,.rd (some ⟨a2,0,none⟩) 2 ([[.slice aa ad.length am,.slice ac ag.length aq]] : List (List Value))),(7,.cells ((o 0).x) 4 [.bool false])]) [(0,{ act := .new .var,key := some 7 })] [0,1,4] [1,2,3,4,5,6,7] (fun o => by kernel_rfl) ?_
  intro o
  refine GS.seq ?_
  refine bnd_elim hm (fun y3 e4 hm => ?_)
  refine GS.open_ ?_
  refine GR.rM (i := 0) 1 (env' := fun _ => [(1,pA a2 0),(4,pA ((o 0).x) 0),(12,pA a9 0)]) (by kernel_rfl) (RunsTo.mk [] [1,4,12] [1,2,3,4,5,6,7] (fun _ => []) (fun _ => by kernel_rfl) (fun _ => trivial)) ?_
  intro _
  refine GR.callG (X := Nat × Option Addr × Nat × Hds) (i := 1) (g := 16) (ro := [Ent.all (sgs 59 nX59 W none V),Ent.all (nins nJ59 W V),.rd (some ⟨a9,0,none⟩) 3 ([[.bool true,.pointer (sgp W none V),vI au]] : List (List Value))]) (mem' := fun ⟨x5,x6,x7,x8⟩ => [(1,Ent.all (sgs 59 nX59 W none V)),(2,Ent.all (nins nJ59 W V)),(3,.rd (some ⟨a9,0,none⟩) 3 ([[.bool true,.pointer (sgp W none V),vI au]] : List (List Value))),(4,r5 aa ad),(5,r4 ac ag),(6,.rd (some ⟨a2,0,none⟩) 2 ([[.slice aa ad.length am,.slice ac ag.length aq]] : List (List Value))),(7,.cells ((o 0).x) 4 [.bool false]),(8,.osl x6 x7 59 3 (nrows nR59 x8 y3)),(9,bag (nins nI59 x8 y3)),(10,.cells x5 61 [.slice x6 y3.length x7])]) (env' := fun ⟨x5,x6,x7,x8⟩ => [(1,pA a2 0),(4,pA ((o 0).x) 0),(13,.func (.func 26) #[] #[pA x5 0])]) [] [8,9,10] [1,4,13] [1,2,3,4,5,6,7,8,9,10] false (by kernel_rfl) (by kernel_rfl) (by kernel_rfl) (by kernel_rfl) (by kernel_rfl) (fun _ => rfl) (fun _ _ => rfl) ⟨(.inl ⟨1,_,rfl,rfl,Cov.refl _,fun h => by cases h⟩),(.inl ⟨2,_,rfl,rfl,Cov.refl _,fun h => by cases h⟩),(.inl ⟨3,_,rfl,rfl,Cov.refl _,fun h => by cases h⟩),trivial⟩ (by rintro ⟨x5,x6,x7,x8⟩; kernel_rfl) (by rintro ⟨x5,x6,x7,x8⟩; kernel_rfl) (w___extent_Map__Extents F a9 W V au e4) ?_
  rintro ⟨x5,x6,x7,x8⟩
  refine GR.ru (i := 2) 1 (env' := fun _ => [(1,pA a2 0),(4,pA ((o 0).x) 0),(5,.func (.func 26) #[] #[pA x5 0])]) (mem' := fun _ => [(4,r5 aa ad),(5,r4 ac ag),(6,.rd (some ⟨a2,0,none⟩) 2 ([[.slice aa ad.length am,.slice ac ag.length aq]] : List (List Value))),(7,.cells ((o 0).x) 4 [.bool false]),(8,.osl x6 x7 59 3 (nrows nR59 x8 y3)),(9,bag (nins nI59 x8 y3)),(10,.cells x5 61 [.slice x6 y3.length x7])]) (by kernel_rfl) (RunsTo.mk [] [1,4,5] [4,5,6,7,8,9,10] (fun _ => []) (fun _ => by kernel_rfl) (fun _ => trivial)) ?_
  intro _
  refine GR.dn (by kernel_rfl) ?_
  refine GS.seq ?_
  refine GS.seq ?_
  refine GS.rzM (fun _ => [(1,pA a2 0),(4,pA ((o 0).x) 0),(5,.func (.func 26) #[] #[pA x5 0]),(15,.bool false)]) [] [1,4,5,15] [4,5,6,7,8,9,10] (fun _ => by kernel_rfl) ?_
  intro _
  refine GS.cond (t := false) rfl rfl (fun hf => by cases hf) (fun _ => ?_)
  refine GS.skip ?_
  refine GS.seq ?_
  refine bnd_elim hm (fun b c0 hm => ?_)
  refine GS.open_ ?_
  refine GR.rM (i := 0) 1 (env' := fun _ => [(4,pA ((o 0).x) 0),(5,.func (.func 26) #[] #[pA x5 0]),(16,pA a2 0)]) (by kernel_rfl) (RunsTo.mk [] [4,5,16] [4,5,6,7,8,9,10] (fun _ => []) (fun _ => by kernel_rfl) (fun _ => trivial)) ?_
  intro _
  refine GR.callG (X := Option Addr × Nat × Hds) (i := 1) (g := 33) (ro := [r5 aa ad,r4 ac ag,.rd (some ⟨a2,0,none⟩) 2 ([[.slice aa ad.length am,.slice ac ag.length aq]] : List (List Value))]) (mem' := fun ⟨m,n,e⟩ => [(4,r5 aa ad),(5,r4 ac ag),(6,.rd (some ⟨a2,0,none⟩) 2 ([[.slice aa ad.length am,.slice ac ag.length aq]] : List (List Value))),(7,.cells ((o 0).x) 4 [.bool false]),(8,.osl x6 x7 59 3 (nrows nR59 x8 y3)),(9,bag (nins nI59 x8 y3)),(10,.cells x5 61 [.slice x6 y3.length x7]),(11,.osl m n 73 2 (nrows nR73 e b)),(12,bag (nins nI73 e b))]) (env' := fun ⟨m,n,e⟩ => [(4,pA ((o 0).x) 0),(5,.func (.func 26) #[] #[pA x5 0]),(17,.slice m b.length n)]) [] [11,12] [4,5,17] [4,5,6,7,8,9,10,11,12] false (by kernel_rfl) (by kernel_rfl) (by kernel_rfl) (by kernel_rfl) (by kernel_rfl) (fun _ => rfl) (fun _ _ => rfl) ⟨(.inl ⟨4,_,rfl,rfl,Cov.refl _,fun h => by cases h⟩),(.inl ⟨5,_,rfl,rfl,Cov.refl _,fun h => by cases h⟩),(.inl ⟨6,_,rfl,rfl,Cov.refl _,fun h => by cases h⟩),trivial⟩ (by rintro ⟨m,n,e⟩; kernel_rfl) (by rintro ⟨m,n,e⟩; kernel_rfl) (w___tholeref05_Map__Runs F a2 aa am ad ac aq ag c0) ?_
  rintro ⟨m,n,e⟩
  refine GR.ru (i := 2) 2 (env' := fun l => [(4,pA ((o 0).x) 0),(5,.func (.func 26) #[] #[pA x5 0]),(6,pA ((l 2).x) 0)]) (mem' := fun l => [(7,.cells ((o 0).x) 4 [.bool false]),(8,.osl x6 x7 59 3 (nrows nR59 x8 y3)),(9,bag (nins nI59 x8 y3)),(10,.cells x5 61 [.slice x6 y3.length x7]),(11,.osl m n 73 2 (nrows nR73 e b)),(12,bag (nins nI73 e b)),(13,.cells ((l 2).x) 70 [.slice m b.length n])]) (by kernel_rfl) (RunsTo.mk [(2,{ act := .new .var,key := some 13 }),(3,{ act := .store 0 0 [],key := some 13 })] [4,5,6] [7,8,9,10,11,12,13] (fun l => [(l 2).x = (l 2).x,oC (.slice m b.length n)]) (fun l => by kernel_rfl) (fun l => ⟨rfl,rfl,trivial⟩)) ?_
  intro l
  refine GR.dn (by kernel_rfl) ?_
  refine GS.seq ?_
  refine GS.seq ?_
  refine GS.rg (fun H => [(4,pA ((o 0).x) 0),(5,.func (.func 26) #[] #[pA x5 0]),(6,pA ((l 2).x) 0),(7,pA ((H 0).x) 0)]) (fun H => [(7,.cells ((o 0).x) 4 [.bool false]),(8,.osl x6 x7 59 3 (nrows nR59 x8 y3)),(9,bag (nins nI59 x8 y3)),(10,.cells x5 61 [.slice x6 y3.length x7]),(11,.osl m n 73 2 (nrows nR73 e b)),(12,bag (nins nI73 e b)),(13,.cells ((l 2).x) 70 [.slice m b.length n]),(14,.cells ((H 0).x) 3 [vI 0])]) [(0,{ act := .new .var,key := some 14 }),(1,{ act := .store 0 0 [],key := some 14 })] [4,5,6,7] [7,8,9,10,11,12,13,14] (fun H => [(H 0).x = (H 0).x,oC (vI 0)]) (fun H => by kernel_rfl) (fun H => ⟨rfl,rfl,trivial⟩) ?_
  intro H
  refine GS.block ?_
  refine GS.loop ?_
  refine GS.seq ?_
  refine GS.seq ?_
  refine GS.rgM (fun _ => [(4,pA ((o 0).x) 0),(5,.func (.func 26) #[] #[pA x5 0]),(6,pA ((l 2).x) 0),(7,pA ((H 0).x) 0),(19,.bool true)]) [(0,{ act := .load 14 0 0 [] })] [4,5,6,7,19] [7,8,9,10,11,12,13,14] (fun _ => [(H 0).x = (H 0).x]) (fun _ => by kernel_rfl) (fun _ => ⟨rfl,trivial⟩) ?_
  intro _
  refine GS.cond (t := true) rfl rfl (fun _ => ?_) (fun hf => by cases hf)
  refine GS.skip ?_
  refine GS.seq ?_
  refine GS.block ?_
  refine GS.seq ?_
  refine GS.rg (fun J => [(4,pA ((o 0).x) 0),(5,.func (.func 26) #[] #[pA x5 0]),(6,pA ((l 2).x) 0),(7,pA ((H 0).x) 0),(8,pA ((J 0).x) 0)]) (fun J => [(7,.cells ((o 0).x) 4 [.bool false]),(8,.osl x6 x7 59 3 (nrows nR59 x8 y3)),(9,bag (nins nI59 x8 y3)),(10,.cells x5 61 [.slice x6 y3.length x7]),(11,.osl m n 73 2 (nrows nR73 e b)),(12,bag (nins nI73 e b)),(13,.cells ((l 2).x) 70 [.slice m b.length n]),(14,.cells ((H 0).x) 3 [vI 0]),(15,.cells ((J 0).x) 3 [vI 0])]) [(0,{ act := .new .var,key := some 15 }),(1,{ act := .store 0 0 [],key := some 15 })] [4,5,6,7,8] [7,8,9,10,11,12,13,14,15] (fun J => [(J 0).x = (J 0).x,oC (vI 0)]) (fun J => by kernel_rfl) (fun J => ⟨rfl,rfl,trivial⟩) ?_
  intro J
  refine GS.seq ?_
  refine GS.seq ?_
  refine GS.rzM (fun _ => [(4,pA ((o 0).x) 0),(5,.func (.func 26) #[] #[pA x5 0]),(6,pA ((l 2).x) 0),(7,pA ((H 0).x) 0),(8,pA ((J 0).x) 0),(22,.func (.func 26) #[] #[pA x5 0])]) [] [4,5,6,7,8,22] [7,8,9,10,11,12,13,14,15] (fun _ => by kernel_rfl) ?_
  intro _
  refine GS.block ?_
  refine bnd_elim hm (fun bv c1 hm => ?_)
  refine GS.rekey (env' := [(4,pA ((o 0).x) 0),(5,.func (.func 26) #[] #[pA x5 0]),(6,pA ((l 2).x) 0),(7,pA ((H 0).x) 0),(8,pA ((J 0).x) 0),(22,.func (.func 26) #[] #[pA x5 0])]) (mem' := [(7,.cells ((o 0).x) 4 [.bool false]),(8,.osl x6 x7 59 3 (nrows nR59 x8 y3)),(9,bag (nins nI59 x8 y3)),(10,.cells x5 61 [.slice x6 y3.length x7]),(11,.osl m n 73 2 (nrows nR73 e b)),(12,bag (nins nI73 e b)),(13,.cells ((l 2).x) 70 [.slice m b.length n]),(14,.cells ((H 0).x) 3 [vI 0]),(15,.cells ((J 0).x) 3 [vI 0])]) [4,5,6,7,8,22] [(7,7),(8,8),(9,9),(10,10),(11,11),(12,12),(13,13),(14,14),(15,15)] (by kernel_rfl) (by kernel_rfl) rfl ?_
  refine GS.setMem (mem' := [(7,.cells ((o 0).x) 4 [.bool false]),(8,.osl x6 x7 59 3 (nrows nR59 x8 y3)),(9,bag (nins nI59 x8 y3)),(10,.cells x5 61 [.slice x6 y3.length x7]),(11,.osl m n 73 2 (nrows nR73 e b)),(12,bag (nins nI73 e b)),(13,.cells ((l 2).x) 70 [.slice m b.length n]),(14,.cells ((H 0).x) 3 [vI 0]),(15,.cells ((J 0).x) 3 [vI 0]),(700020,Ent.all [])]) (fun w hw => Sat.addAll hw [] rfl rfl rfl) ?_
  refine GS.rangeFuncG (τ := Nat × Nat) (A := Unit) 500002 500003 [7,11,12,13,14,15] [7,8,9,10,11,12,13,14,15] (fun t a => [.cells ((o 0).x) 4 [.bool false],.osl m n 73 2 (nrows nR73 e b),bag (nins nI73 e b),.cells ((l 2).x) 70 [.slice m b.length n],.cells ((H 0).x) 3 [vI 0],.cells ((J 0).x) 3 [vI (t.2 : Int)]]) (fun t => (bif t.1 == 0 then none else (bif t.1 == 1 then some .ret else some (.exit 2)))) (0,0) bv () (mem' := fun a => [(7,.cells ((o 0).x) 4 [.bool false]),(8,.osl x6 x7 59 3 (nrows nR59 x8 y3)),(9,bag (nins nI59 x8 y3)),(10,.cells x5 61 [.slice x6 y3.length x7]),(11,.osl m n 73 2 (nrows nR73 e b)),(12,bag (nins nI73 e b)),(13,.cells ((l 2).x) 70 [.slice m b.length n]),(14,.cells ((H 0).x) 3 [vI 0]),(15,.cells ((J 0).x) 3 [vI (bv.2 : Int)])]) (RL := []) (itro := [.rd x6 3 (nrows nR59 x8 y3),Ent.all (nins nJ59 x8 y3),.rd (some ⟨x5,0,none⟩) 1 ([[.slice x6 y3.length x7]] : List (List Value))]) (vv := .tuple #[]) rfl rfl rfl (fun _ _ => rfl) ⟨rfl,rfl,rfl⟩ rfl (fun _ => ⟨rfl,rfl⟩) rfl rfl (by kernel_rfl) rfl (fun _ _ => rfl) (fun _ => rfl) ⟨(.inl ⟨8,_,rfl,rfl,Cov.osl_rd,fun h => by cases h⟩),(.inl ⟨9,_,rfl,rfl,(Cov.bag_all (nins_cov nC59 _ _)),fun h => by cases h⟩),(.inl ⟨10,_,rfl,rfl,Cov.cells_rd,fun h => by cases h⟩),(.inl ⟨700020,_,rfl,rfl,Cov.refl _,fun h => by cases h⟩),trivial⟩ (fun a => by kernel_rfl) ?_ ?_
  · intro ah ar ai cg
    refine w___extent_Map__Extents_1 F (rfBag ah ar ai (fun t => (bif t.1 == 0 then none else (bif t.1 == 1 then some .ret else some (.exit 2)))) (fun t a => [.cells ((o 0).x) 4 [.bool false],.osl m n 73 2 (nrows nR73 e b),bag (nins nI73 e b),.cells ((l 2).x) 70 [.slice m b.length n],.cells ((H 0).x) 3 [vI 0],.cells ((J 0).x) 3 [vI (t.2 : Int)]])) [] ah (fun (t : Nat × Nat) (x : Int × List UInt8) => grd (t.1 = 0) ((fun (f : Nat) => (fun (c2 : Int × List UInt8) => match c2 with | (a0,R) => grd (f < b.length) (jn (fun (a3 : Bool) => (bif a3 then some (false,(1,f)) else grd ((R.length : Int) ≤ 9223372036854775807) (loopC (fun (ch : List UInt8 → Option (Bool × (Nat × Nat))) (U : Nat) (ab : List UInt8) => grd (U < ab.length) (ch (ab.set U (5 : UInt8)))) (fun (U : Nat) (ab : List UInt8) => grd (Len (f + 1)) ((bif ((f + 1 : Nat) : Int) == 1 then some (false,(2,(f + 1))) else some (true,(0,(f + 1)))))) (Int.toNat ((R.length : Int) - (0 : Int))) 0 R))) (fun (bm : Bool → Option (Bool × (Nat × Nat))) => (bif decide ((f : Int) ≥ (b.length : Int)) then bm true else (bif a0 != ((b.getD f dS_tholeref05_Run).At) then bm true else (m_tholeref01_Same F R ((b.getD f dS_tholeref05_Run).B)).bind (fun bi => bm (!bi))))))) x) t.2)) (fun t a v C a0 R y hm => ?_) (0,0) () x5 x6 x7 x8 y3 c1
    obtain ⟨j0,f⟩ := t
    try dsimp only at hm
    refine grd_elim hm (fun h0 hq => ?_)
    clear hm
    replace h0 : j0 = 0 := h0
    subst h0
    have hm := hq
    clear hq
    try dsimp only at hm
    refine cg (X := Unit) (0,f) a #[vI a0,.slice v R.length C] (fun _ => .bool y.1) [o5 v C R] (fun a' => [bag (rfBag ah ar ai (fun t => (bif t.1 == 0 then none else (bif t.1 == 1 then some .ret else some (.exit 2)))) (fun t a => [.cells ((o 0).x) 4 [.bool false],.osl m n 73 2 (nrows nR73 e b),bag (nins nI73 e b),.cells ((l 2).x) 70 [.slice m b.length n],.cells ((H 0).x) 3 [vI 0],.cells ((J 0).x) 3 [vI (t.2 : Int)]]) y.2 a')]) rfl rfl (fun w => ?_)
    refine GS.rekey (env' := [(4,pA ((o 0).x) 0),(6,pA ((l 2).x) 0),(7,pA ((H 0).x) 0),(8,pA ((J 0).x) 0),(23,vI a0),(24,.slice v R.length C)]) (mem' := [(700030,bag (rfBag ah ar ai (fun t => (bif t.1 == 0 then none else (bif t.1 == 1 then some .ret else some (.exit 2)))) (fun t a => [.cells ((o 0).x) 4 [.bool false],.osl m n 73 2 (nrows nR73 e b),bag (nins nI73 e b),.cells ((l 2).x) 70 [.slice m b.length n],.cells ((H 0).x) 3 [vI 0],.cells ((J 0).x) 3 [vI (t.2 : Int)]]) (0,f) a)),(700031,o5 v C R),(700032,Ent.all [])]) [4,6,7,8,23,24] [(700030,1),(700031,2),(700032,3)] (by kernel_rfl) (by kernel_rfl) rfl ?_
    refine GS.setMem (mem' := [(7,.cells ((o 0).x) 4 [.bool false]),(11,.osl m n 73 2 (nrows nR73 e b)),(12,bag (nins nI73 e b)),(13,.cells ((l 2).x) 70 [.slice m b.length n]),(14,.cells ((H 0).x) 3 [vI 0]),(15,.cells ((J 0).x) 3 [vI (f : Int)]),(500002,blkD ar),(500003,.obj ah (.loop (recRd ai))),(700031,o5 v C R),(700032,Ent.all [])]) (fun w hw => unbag_mem (k := 700030) (nk := [500002,500003,7,11,12,13,14,15]) (keys := [7,11,12,13,14,15,500002,500003,700031,700032]) hw rfl rfl rfl rfl (by kernel_rfl)) ?_
    refine GS.rekey (env' := [(4,pA ((o 0).x) 0),(6,pA ((l 2).x) 0),(7,pA ((H 0).x) 0),(8,pA ((J 0).x) 0),(23,vI a0),(24,.slice v R.length C)]) (mem' := [(7,.cells ((o 0).x) 4 [.bool false]),(11,.osl m n 73 2 (nrows nR73 e b)),(12,bag (nins nI73 e b)),(13,.cells ((l 2).x) 70 [.slice m b.length n]),(14,.cells ((H 0).x) 3 [vI 0]),(15,.cells ((J 0).x) 3 [vI (f : Int)]),(16,o5 v C R),(500002,blkD ar),(500003,.obj ah (.loop (recRd ai)))]) [4,6,7,8,23,24] [(7,7),(11,11),(12,12),(13,13),(14,14),(15,15),(16,700031),(500002,500002),(500003,500003)] (by kernel_rfl) (by kernel_rfl) rfl ?_
    refine GS.seq ?_
    refine GS.rzM (fun _ => [(4,pA ((o 0).x) 0),(6,pA ((l 2).x) 0),(7,pA ((H 0).x) 0),(8,pA ((J 0).x) 0),(9,vI a0),(24,.slice v R.length C)]) [] [4,6,7,8,9,24] [7,11,12,13,14,15,16,500002,500003] (fun _ => by kernel_rfl) ?_
    intro _
    refine GS.rzM (fun _ => [(4,pA ((o 0).x) 0),(6,pA ((l 2).x) 0),(7,pA ((H 0).x) 0),(8,pA ((J 0).x) 0),(9,vI a0),(10,.slice v R.length C)]) [] [4,6,7,8,9,10] [7,11,12,13,14,15,16,500002,500003] (fun _ => by kernel_rfl) ?_
    intro _
    refine GS.beginRound 500003 rfl rfl rfl rfl ?_
    refine GS.conv (mem' := [(7,.cells ((o 0).x) 4 [.bool false]),(11,.osl m n 73 2 (nrows nR73 e b)),(12,bag (nins nI73 e b)),(13,.cells ((l 2).x) 70 [.slice m b.length n]),(14,.cells ((H 0).x) 3 [vI 0]),(15,.cells ((J 0).x) 3 [vI (f : Int)]),(16,o5 v C R),(500002,blkD ar),(500003,.obj ah (.loop (recBz ai)))]) rfl rfl ?_
    refine GS.block ?_
    refine GS.seq ?_
    refine GS.seq ?_
    refine grd_elim hm (fun bb hm => ?_)
    refine GS.setMem (mem' := [(7,.cells ((o 0).x) 4 [.bool false]),(11,.osl m n 73 2 (nrows nR73 e b)),(12,bag (nins nI73 (updH e f nilH) (b.set f dS_tholeref05_Run))),(13,.cells ((l 2).x) 70 [.slice m b.length n]),(14,.cells ((H 0).x) 3 [vI 0]),(15,.cells ((J 0).x) 3 [vI (f : Int)]),(16,o5 v C R),(500002,blkD ar),(500003,.obj ah (.loop (recBz ai))),(500004,o5 (((e f) 0).1) (((e f) 0).2) ((b.getD f dS_tholeref05_Run).B))]) (fun w hw => nest_out (K := 12) (nk := [500004]) (d := dS_tholeref05_Run) [7,11,12,13,14,15,16,500002,500003,500004] nilH dS_tholeref05_Run hw rfl bb nE73 rfl rfl (by kernel_rfl)) ?_
    refine jn_elim hm (fun bm ci hm => ?_)
    refine GS.cut (ι := Bool) (I := fun (a3 : Bool) => bm a3 = some y) (E := fun (a3 : Bool) => [(4,pA ((o 0).x) 0),(7,pA ((H 0).x) 0),(8,pA ((J 0).x) 0),(10,.slice v R.length C),(47,.bool a3)]) (M := fun (a3 : Bool) => [(7,.cells ((o 0).x) 4 [.bool false]),(11,.osl m n 73 2 (nrows nR73 e b)),(12,bag (nins nI73 e b)),(13,.cells ((l 2).x) 70 [.slice m b.length n]),(14,.cells ((H 0).x) 3 [vI 0]),(15,.cells ((J 0).x) 3 [vI (f : Int)]),(16,o5 v C R),(500002,blkD ar),(500003,.obj ah (.loop (recBz ai)))]) ?_ ?_
    rotate_left
    · intro b1
      refine br_elim hm (fun bw hm => ?_) (fun bw hm => ?_)
      · skip
        refine GS.rgM (fun _ => [(4,pA ((o 0).x) 0),(7,pA ((H 0).x) 0),(8,pA ((J 0).x) 0),(10,.slice v R.length C),(47,.bool true)]) [(0,{ act := .load 15 0 0 [] }),(1,{ act := .load 13 0 0 [] }),(4,{ sp := some (.bool true) })] [4,7,8,10,47] [7,11,12,13,14,15,16,500002,500003,500004] (fun _ => [(J 0).x = (J 0).x,(l 2).x = (l 2).x,((.bool (decide ((f : Int) ≥ (b.length : Int)))) : Value) = .bool true]) (fun _ => by kernel_rfl) (fun _ => ⟨rfl,rfl,bool_eq bw,trivial⟩) ?_
        intro _
        refine GS.setMem (mem' := [(7,.cells ((o 0).x) 4 [.bool false]),(11,.osl m n 73 2 (nrows nR73 e b)),(12,bag (nins nI73 e b)),(13,.cells ((l 2).x) 70 [.slice m b.length n]),(14,.cells ((H 0).x) 3 [vI 0]),(15,.cells ((J 0).x) 3 [vI (f : Int)]),(16,o5 v C R),(500002,blkD ar),(500003,.obj ah (.loop (recBz ai)))]) (fun w hw => nest_back (K := 12) (nk := [500004]) [7,11,12,13,14,15,16,500002,500003] dS_tholeref05_Run hw rfl (bb) rfl rfl rfl (by kernel_rfl)) ?_
        refine GS.rekey (env' := [(4,pA ((o 0).x) 0),(7,pA ((H 0).x) 0),(8,pA ((J 0).x) 0),(10,.slice v R.length C),(47,.bool true)]) (mem' := [(7,.cells ((o 0).x) 4 [.bool false]),(11,.osl m n 73 2 (nrows nR73 e b)),(12,bag (nins nI73 e b)),(13,.cells ((l 2).x) 70 [.slice m b.length n]),(14,.cells ((H 0).x) 3 [vI 0]),(15,.cells ((J 0).x) 3 [vI (f : Int)]),(16,o5 v C R),(500002,blkD ar),(500003,.obj ah (.loop (recBz ai)))]) [4,7,8,10,47] [(7,7),(11,11),(12,12),(13,13),(14,14),(15,15),(16,16),(500002,500002),(500003,500003)] (by kernel_rfl) (by kernel_rfl) rfl ?_
        exact b1 true hm
      · skip
        refine br_elim hm (fun b2 hm => ?_) (fun b2 hm => ?_)
        · skip
          refine GS.rgM (fun _ => [(4,pA ((o 0).x) 0),(7,pA ((H 0).x) 0),(8,pA ((J 0).x) 0),(10,.slice v R.length C),(47,.bool true)]) [(0,{ act := .load 15 0 0 [] }),(1,{ act := .load 13 0 0 [] }),(4,{ sp := some (.bool false) }),(6,{ act := .load 13 0 0 [] }),(7,{ act := .load 15 0 0 [] }),(8,{ act := .idx 11 f }),(10,{ act := .load 11 f 0 [vI ((b.getD f dS_tholeref05_Run).At),.slice (((e f) 0).1) (((b.getD f dS_tholeref05_Run).B).length) (((e f) 0).2)] }),(13,{ sp := some (.bool true) })] [4,7,8,10,47] [7,11,12,13,14,15,16,500002,500003,500004] (fun _ => [(J 0).x = (J 0).x,(l 2).x = (l 2).x,((.bool (decide ((f : Int) ≥ (b.length : Int)))) : Value) = .bool false,(l 2).x = (l 2).x,(J 0).x = (J 0).x,m = m,b.length = (nrows nR73 e b).length,((f : Int) : Int) = (f : Int),f < b.length,blk m = blk m,offs m + f * 2 = offs m + (f * 2 + 0),(nrows nR73 e b)[f]? = some [vI ((b.getD f dS_tholeref05_Run).At),.slice (((e f) 0).1) (((b.getD f dS_tholeref05_Run).B).length) (((e f) 0).2)],((.bool (a0 != ((b.getD f dS_tholeref05_Run).At))) : Value) = .bool true]) (fun _ => by kernel_rfl) (fun _ => ⟨rfl,rfl,bool_eq bw,rfl,rfl,rfl,(nrows_len nR73 e b).symm,rfl,bb,rfl,rfl,nrows_at nR73 dS_tholeref05_Run e b bb,bool_eq b2,trivial⟩) ?_
          intro _
          refine GS.setMem (mem' := [(7,.cells ((o 0).x) 4 [.bool false]),(11,.osl m n 73 2 (nrows nR73 e b)),(12,bag (nins nI73 e b)),(13,.cells ((l 2).x) 70 [.slice m b.length n]),(14,.cells ((H 0).x) 3 [vI 0]),(15,.cells ((J 0).x) 3 [vI (f : Int)]),(16,o5 v C R),(500002,blkD ar),(500003,.obj ah (.loop (recBz ai)))]) (fun w hw => nest_back (K := 12) (nk := [500004]) [7,11,12,13,14,15,16,500002,500003] dS_tholeref05_Run hw rfl (bb) rfl rfl rfl (by kernel_rfl)) ?_
          refine GS.rekey (env' := [(4,pA ((o 0).x) 0),(7,pA ((H 0).x) 0),(8,pA ((J 0).x) 0),(10,.slice v R.length C),(47,.bool true)]) (mem' := [(7,.cells ((o 0).x) 4 [.bool false]),(11,.osl m n 73 2 (nrows nR73 e b)),(12,bag (nins nI73 e b)),(13,.cells ((l 2).x) 70 [.slice m b.length n]),(14,.cells ((H 0).x) 3 [vI 0]),(15,.cells ((J 0).x) 3 [vI (f : Int)]),(16,o5 v C R),(500002,blkD ar),(500003,.obj ah (.loop (recBz ai)))]) [4,7,8,10,47] [(7,7),(11,11),(12,12),(13,13),(14,14),(15,15),(16,16),(500002,500002),(500003,500003)] (by kernel_rfl) (by kernel_rfl) rfl ?_
          exact b1 true hm
        · skip
          refine bnd_elim hm (fun bi c3 hm => ?_)
          refine GS.rgM (fun _ => [(4,pA ((o 0).x) 0),(7,pA ((H 0).x) 0),(8,pA ((J 0).x) 0),(10,.slice v R.length C),(47,.bool (!bi))]) [(0,{ act := .load 15 0 0 [] }),(1,{ act := .load 13 0 0 [] }),(4,{ sp := some (.bool false) }),(6,{ act := .load 13 0 0 [] }),(7,{ act := .load 15 0 0 [] }),(8,{ act := .idx 11 f }),(10,{ act := .load 11 f 0 [vI ((b.getD f dS_tholeref05_Run).At),.slice (((e f) 0).1) (((b.getD f dS_tholeref05_Run).B).length) (((e f) 0).2)] }),(13,{ sp := some (.bool false) }),(15,{ act := .load 13 0 0 [] }),(16,{ act := .load 15 0 0 [] }),(17,{ act := .idx 11 f }),(19,{ act := .load 11 f 1 [vI ((b.getD f dS_tholeref05_Run).At),.slice (((e f) 0).1) (((b.getD f dS_tholeref05_Run).B).length) (((e f) 0).2)] }),(20,{ act := .call [16,500004] (.bool bi) })] [4,7,8,10,47] [7,11,12,13,14,15,16,500002,500003,500004] (fun _ => [(J 0).x = (J 0).x,(l 2).x = (l 2).x,((.bool (decide ((f : Int) ≥ (b.length : Int)))) : Value) = .bool false,(l 2).x = (l 2).x,(J 0).x = (J 0).x,m = m,b.length = (nrows nR73 e b).length,((f : Int) : Int) = (f : Int),f < b.length,blk m = blk m,offs m + f * 2 = offs m + (f * 2 + 0),(nrows nR73 e b)[f]? = some [vI ((b.getD f dS_tholeref05_Run).At),.slice (((e f) 0).1) (((b.getD f dS_tholeref05_Run).B).length) (((e f) 0).2)],((.bool (a0 != ((b.getD f dS_tholeref05_Run).At))) : Value) = .bool false,(l 2).x = (l 2).x,(J 0).x = (J 0).x,m = m,b.length = (nrows nR73 e b).length,((f : Int) : Int) = (f : Int),f < b.length,blk m = blk m,offs m + f * 2 + 1 = offs m + (f * 2 + 1),(nrows nR73 e b)[f]? = some [vI ((b.getD f dS_tholeref05_Run).At),.slice (((e f) 0).1) (((b.getD f dS_tholeref05_Run).B).length) (((e f) 0).2)],CallOK Try.prog 12 #[.slice v R.length C,.slice (((e f) 0).1) (((b.getD f dS_tholeref05_Run).B).length) (((e f) 0).2)] (.bool bi) [some (o5 v C R),some (o5 (((e f) 0).1) (((e f) 0).2) ((b.getD f dS_tholeref05_Run).B))]]) (fun _ => by kernel_rfl) (fun _ => ⟨rfl,rfl,bool_eq bw,rfl,rfl,rfl,(nrows_len nR73 e b).symm,rfl,bb,rfl,rfl,nrows_at nR73 dS_tholeref05_Run e b bb,bool_eq b2,rfl,rfl,rfl,(nrows_len nR73 e b).symm,rfl,bb,rfl,(Nat.add_assoc ..),nrows_at nR73 dS_tholeref05_Run e b bb,(by have h1 := w_tholeref01_Same F v C R (((e f) 0).1) (((e f) 0).2) ((b.getD f dS_tholeref05_Run).B) c3; exact h1.ok ⟨(.inl ⟨o5 v C R,.head _,Cov.osl_rd⟩),(.inl ⟨o5 (((e f) 0).1) (((e f) 0).2) ((b.getD f dS_tholeref05_Run).B),(.tail _ (.head _)),Cov.osl_rd⟩),trivial⟩),trivial⟩) ?_
          intro _
          refine GS.setMem (mem' := [(7,.cells ((o 0).x) 4 [.bool false]),(11,.osl m n 73 2 (nrows nR73 e b)),(12,bag (nins nI73 e b)),(13,.cells ((l 2).x) 70 [.slice m b.length n]),(14,.cells ((H 0).x) 3 [vI 0]),(15,.cells ((J 0).x) 3 [vI (f : Int)]),(16,o5 v C R),(500002,blkD ar),(500003,.obj ah (.loop (recBz ai)))]) (fun w hw => nest_back (K := 12) (nk := [500004]) [7,11,12,13,14,15,16,500002,500003] dS_tholeref05_Run hw rfl (bb) rfl rfl rfl (by kernel_rfl)) ?_
          refine GS.rekey (env' := [(4,pA ((o 0).x) 0),(7,pA ((H 0).x) 0),(8,pA ((J 0).x) 0),(10,.slice v R.length C),(47,.bool (!bi))]) (mem' := [(7,.cells ((o 0).x) 4 [.bool false]),(11,.osl m n 73 2 (nrows nR73 e b)),(12,bag (nins nI73 e b)),(13,.cells ((l 2).x) 70 [.slice m b.length n]),(14,.cells ((H 0).x) 3 [vI 0]),(15,.cells ((J 0).x) 3 [vI (f : Int)]),(16,o5 v C R),(500002,blkD ar),(500003,.obj ah (.loop (recBz ai)))]) [4,7,8,10,47] [(7,7),(11,11),(12,12),(13,13),(14,14),(15,15),(16,16),(500002,500002),(500003,500003)] (by kernel_rfl) (by kernel_rfl) rfl ?_
          exact b1 (!bi) hm
    · rintro a3 hm
      replace hm := (ci _).symm.trans hm
      try dsimp only at hm
      refine GS.cond (t := a3) rfl rfl (fun b3 => ?_) (fun b3 => ?_)
      · replace hm := br_t b3 hm
        refine GS.seq ?_
        refine GS.rg (fun _ => []) (fun _ => [(7,.cells ((o 0).x) 4 [.bool false]),(11,.osl m n 73 2 (nrows nR73 e b)),(12,bag (nins nI73 e b)),(13,.cells ((l 2).x) 70 [.slice m b.length n]),(14,.cells ((H 0).x) 3 [vI 0]),(15,.cells ((J 0).x) 3 [vI (f : Int)]),(500002,blkD ar),(500003,.obj ah (.loop (recBz ai)))]) [(0,{ act := .store 0 0 [],key := some 7 })] [] [7,11,12,13,14,15,500002,500003] (fun _ => [(o 0).x = (o 0).x,oC (.bool false)]) (fun _ => by kernel_rfl) (fun _ => ⟨rfl,rfl,trivial⟩) ?_
        intro _
        have hy := Option.some.inj hm
        subst hy
        refine GS.rekey (env' := []) (mem' := [(7,.cells ((o 0).x) 4 [.bool false]),(11,.osl m n 73 2 (nrows nR73 e b)),(12,bag (nins nI73 e b)),(13,.cells ((l 2).x) 70 [.slice m b.length n]),(14,.cells ((H 0).x) 3 [vI 0]),(15,.cells ((J 0).x) 3 [vI (f : Int)]),(500002,blkD ar),(500003,.obj ah (.loop (recBz ai)))]) [] [(7,7),(11,11),(12,12),(13,13),(14,14),(15,15),(500002,500002),(500003,500003)] (by kernel_rfl) (by kernel_rfl) rfl ?_
        refine GS.roundRet 500003 rfl rfl rfl rfl rfl (fun w' hs => ⟨(),rfl,TurnsG.bag (es' := [blkD ar,.obj ah (.loop (recJ ai .ret)),.cells ((o 0).x) 4 [.bool false],.osl m n 73 2 (nrows nR73 e b),bag (nins nI73 e b),.cells ((l 2).x) 70 [.slice m b.length n],.cells ((H 0).x) 3 [vI 0],.cells ((J 0).x) 3 [vI (f : Int)]]) (hs.turnedG (ks := [500002,500003,7,11,12,13,14,15]) rfl rfl) rfl⟩)
      · replace hm := br_f b3 hm
        refine GS.skip ?_
        refine GS.seq ?_
        refine GS.seq ?_
        refine GS.rzM (fun _ => [(7,pA ((H 0).x) 0),(8,pA ((J 0).x) 0),(10,.slice v R.length C),(49,vI (R.length : Int)),(50,vI 0)]) [] [7,8,10,49,50] [7,11,12,13,14,15,16,500002,500003] (fun _ => by kernel_rfl) ?_
        intro _
        refine GS.block ?_
        refine GS.loop ?_
        refine GS.know (p := b.length ≤ n) (fun w hw => by first | (have h := (hw.ok 11 _ rfl).1.1; rw [List.length_map] at h; exact h) | (have h := (hw.ok 11 _ rfl).1.1; rw [nrows_len] at h; exact h) | simpa using (hw.ok 11 _ rfl).1.1) (fun dd => ?_)
        refine GS.know (p := R.length ≤ C) (fun w hw => by first | (have h := (hw.ok 16 _ rfl).1.1; rw [List.length_map] at h; exact h) | (have h := (hw.ok 16 _ rfl).1.1; rw [nrows_len] at h; exact h) | simpa using (hw.ok 16 _ rfl).1.1) (fun de => ?_)
        refine grd_elim hm (fun c4 hm => ?_)
        refine GS.rekey (env' := [(7,pA ((H 0).x) 0),(8,pA ((J 0).x) 0),(10,.slice v R.length C),(49,vI (R.length : Int)),(50,vI 0)]) (mem' := [(7,.cells ((o 0).x) 4 [.bool false]),(11,.osl m n 73 2 (nrows nR73 e b)),(12,bag (nins nI73 e b)),(13,.cells ((l 2).x) 70 [.slice m b.length n]),(14,.cells ((H 0).x) 3 [vI 0]),(15,.cells ((J 0).x) 3 [vI (f : Int)]),(16,o5 v C R),(500002,blkD ar),(500003,.obj ah (.loop (recBz ai)))]) [7,8,10,49,50] [(7,7),(11,11),(12,12),(13,13),(14,14),(15,15),(16,16),(500002,500002),(500003,500003)] (by kernel_rfl) (by kernel_rfl) rfl ?_
        refine loopC_elim hm (fun st65 fn66 hst67 hfn68 hm => ?_)
        refine GS.loopInv (ι := Nat × Nat × List UInt8) (I := fun ⟨a5,U,ab⟩ => (((R.length : Int)) - (U : Int) : Int).toNat = a5 ∧ loopC st65 fn66 a5 U ab = some y) (μ := fun ⟨a5,U,ab⟩ => a5) (E := fun ⟨a5,U,ab⟩ => [(7,pA ((H 0).x) 0),(8,pA ((J 0).x) 0),(10,.slice v ab.length C),(49,vI (R.length : Int)),(50,vI (U : Int))]) (M := fun ⟨a5,U,ab⟩ => [(7,.cells ((o 0).x) 4 [.bool false]),(11,.osl m n 73 2 (nrows nR73 e b)),(12,bag (nins nI73 e b)),(13,.cells ((l 2).x) 70 [.slice m b.length n]),(14,.cells ((H 0).x) 3 [vI 0]),(15,.cells ((J 0).x) 3 [vI (f : Int)]),(16,o5 v C ab),(500002,blkD ar),(500003,.obj ah (.loop (recBz ai)))]) ?_ ⟨(Int.toNat ((R.length : Int) - (0 : Int))),0,R⟩ ⟨rfl,hm⟩
        rintro ⟨a5,U,ab⟩ ⟨bk,hm⟩ cj
        cases a5 with
        | zero =>
          replace hm := (hfn68 _ _).symm.trans hm
          try dsimp only at hm
          refine GS.seq ?_
          refine GS.rzM (fun _ => [(7,pA ((H 0).x) 0),(8,pA ((J 0).x) 0),(10,.slice v ab.length C),(49,vI (R.length : Int)),(50,vI (U : Int)),(51,.bool (decide ((U : Int) < (R.length : Int))))]) [] [7,8,10,49,50,51] [7,11,12,13,14,15,16,500002,500003] (fun _ => by kernel_rfl) ?_
          intro _
          refine GS.seq ?_
          refine GS.cond (t := decide ((U : Int) < (R.length : Int))) rfl rfl (fun c5 => absb c5 (cnt0 bk)) (fun _ => ?_)
          refine GS.exit rfl ?_
          refine GS.seq ?_
          refine grd_elim hm (fun c6 hm => ?_)
          refine GS.rg (fun _ => [(7,pA ((H 0).x) 0),(8,pA ((J 0).x) 0)]) (fun _ => [(7,.cells ((o 0).x) 4 [.bool false]),(11,.osl m n 73 2 (nrows nR73 e b)),(12,bag (nins nI73 e b)),(13,.cells ((l 2).x) 70 [.slice m b.length n]),(14,.cells ((H 0).x) 3 [vI 0]),(15,.cells ((J 0).x) 3 [vI ((f + 1 : Nat) : Int)]),(500002,blkD ar),(500003,.obj ah (.loop (recBz ai)))]) [(0,{ act := .load 15 0 0 [] }),(1,{ sp := some (vI ((f + 1 : Nat) : Int)) }),(2,{ act := .store 0 0 [],key := some 15 })] [7,8] [7,11,12,13,14,15,500002,500003] (fun _ => [(J 0).x = (J 0).x,((vI (IntKind.i64.wrap ((f : Int) + 1))) : Value) = vI ((f + 1 : Nat) : Int),(J 0).x = (J 0).x,oC (vI ((f + 1 : Nat) : Int))]) (fun _ => by kernel_rfl) (fun _ => ⟨rfl,natw2 c6,rfl,rfl,trivial⟩) ?_
          intro _
          refine GS.seq ?_
          refine GS.rgM (fun _ => [(64,.bool (((f + 1 : Nat) : Int) == 1))]) [(0,{ act := .load 14 0 0 [] }),(3,{ act := .load 15 0 0 [] })] [64] [7,11,12,13,14,15,500002,500003] (fun _ => [(H 0).x = (H 0).x,(J 0).x = (J 0).x]) (fun _ => by kernel_rfl) (fun _ => ⟨rfl,rfl,trivial⟩) ?_
          intro _
          refine GS.cond (t := ((f + 1 : Nat) : Int) == 1) rfl rfl (fun b4 => ?_) (fun b4 => ?_)
          · replace hm := br_t b4 hm
            have hy := Option.some.inj hm
            subst hy
            refine GS.rekey (env' := []) (mem' := [(7,.cells ((o 0).x) 4 [.bool false]),(11,.osl m n 73 2 (nrows nR73 e b)),(12,bag (nins nI73 e b)),(13,.cells ((l 2).x) 70 [.slice m b.length n]),(14,.cells ((H 0).x) 3 [vI 0]),(15,.cells ((J 0).x) 3 [vI ((f + 1 : Nat) : Int)]),(500002,blkD ar),(500003,.obj ah (.loop (recBz ai)))]) [] [(7,7),(11,11),(12,12),(13,13),(14,14),(15,15),(500002,500002),(500003,500003)] (by kernel_rfl) (by kernel_rfl) rfl ?_
            refine GS.roundExit 500003 rfl rfl rfl rfl rfl rfl (fun w' hs => ⟨(),rfl,TurnsG.bag (es' := [blkD ar,.obj ah (.loop (recJ ai (.exit 2))),.cells ((o 0).x) 4 [.bool false],.osl m n 73 2 (nrows nR73 e b),bag (nins nI73 e b),.cells ((l 2).x) 70 [.slice m b.length n],.cells ((H 0).x) 3 [vI 0],.cells ((J 0).x) 3 [vI ((f + 1 : Nat) : Int)]]) (hs.turnedG (ks := [500002,500003,7,11,12,13,14,15]) rfl rfl) rfl⟩)
          · replace hm := br_f b4 hm
            refine GS.skip ?_
            refine GS.inBlock ?_
            have hy := Option.some.inj hm
            subst hy
            refine GS.rekey (env' := []) (mem' := [(7,.cells ((o 0).x) 4 [.bool false]),(11,.osl m n 73 2 (nrows nR73 e b)),(12,bag (nins nI73 e b)),(13,.cells ((l 2).x) 70 [.slice m b.length n]),(14,.cells ((H 0).x) 3 [vI 0]),(15,.cells ((J 0).x) 3 [vI ((f + 1 : Nat) : Int)]),(500002,blkD ar),(500003,.obj ah (.loop (recBz ai)))]) [] [(7,7),(11,11),(12,12),(13,13),(14,14),(15,15),(500002,500002),(500003,500003)] (by kernel_rfl) (by kernel_rfl) rfl ?_
            refine GS.roundEnd 500003 rfl rfl rfl rfl rfl (fun w' hs => ⟨(),rfl,TurnsG.bag (es' := [blkD ar,.obj ah (.loop (recRd ai)),.cells ((o 0).x) 4 [.bool false],.osl m n 73 2 (nrows nR73 e b),bag (nins nI73 e b),.cells ((l 2).x) 70 [.slice m b.length n],.cells ((H 0).x) 3 [vI 0],.cells ((J 0).x) 3 [vI ((f + 1 : Nat) : Int)]]) (hs.turnedG (ks := [500002,500003,7,11,12,13,14,15]) rfl rfl) rfl⟩)
        | succ a5 =>
          replace hm := (hst67 _ _ _).symm.trans hm
          try dsimp only at hm
          refine GS.seq ?_
          refine GS.rzM (fun _ => [(7,pA ((H 0).x) 0),(8,pA ((J 0).x) 0),(10,.slice v ab.length C),(49,vI (R.length : Int)),(50,vI (U : Int)),(51,.bool (decide ((U : Int) < (R.length : Int))))]) [] [7,8,10,49,50,51] [7,11,12,13,14,15,16,500002,500003] (fun _ => by kernel_rfl) ?_
          intro _
          refine GS.seq ?_
          refine GS.cond (t := decide ((U : Int) < (R.length : Int))) rfl rfl (fun _ => ?_) (fun c7 => absb (cnt1 bk) c7)
          refine GS.skip ?_
          refine GS.seq ?_
          refine GS.block ?_
          refine GS.seq ?_
          refine GS.rzM (fun _ => [(7,pA ((H 0).x) 0),(8,pA ((J 0).x) 0),(10,.slice v ab.length C),(11,vI (U : Int)),(49,vI (R.length : Int)),(50,vI (U : Int))]) [] [7,8,10,11,49,50] [7,11,12,13,14,15,16,500002,500003] (fun _ => by kernel_rfl) ?_
          intro _
          refine grd_elim hm (fun ck hm => ?_)
          refine GS.rg (fun _ => [(7,pA ((H 0).x) 0),(8,pA ((J 0).x) 0),(10,.slice v ab.length C),(49,vI (R.length : Int)),(50,vI (U : Int))]) (fun _ => [(7,.cells ((o 0).x) 4 [.bool false]),(11,.osl m n 73 2 (nrows nR73 e b)),(12,bag (nins nI73 e b)),(13,.cells ((l 2).x) 70 [.slice m b.length n]),(14,.cells ((H 0).x) 3 [vI 0]),(15,.cells ((J 0).x) 3 [vI (f : Int)]),(16,.osl v C 5 1 ((List.map rB ab).set U [.int .u8 5])),(500002,blkD ar),(500003,.obj ah (.loop (recBz ai)))]) [(2,{ act := .idx 16 U }),(3,{ act := .store U 0 [.int .u8 (((ab.getD U 0).toNat : Nat) : Int)],key := some 16 })] [7,8,10,49,50] [7,11,12,13,14,15,16,500002,500003] (fun _ => [v = v,ab.length = (List.map rB ab).length,((U : Int) : Int) = (U : Int),U < ab.length,blk v = blk v,offs v + U * 1 = offs v + (U * 1 + 0),(List.map rB ab)[U]? = some [.int .u8 (((ab.getD U 0).toNat : Nat) : Int)],oC (.int .u8 5)]) (fun _ => by kernel_rfl) (fun _ => ⟨rfl,mlen rB ab,rfl,ck,rfl,rfl,map_at rB 0 ck,rfl,trivial⟩) ?_
          intro _
          refine GS.conv (mem' := [(7,.cells ((o 0).x) 4 [.bool false]),(11,.osl m n 73 2 (nrows nR73 e b)),(12,bag (nins nI73 e b)),(13,.cells ((l 2).x) 70 [.slice m b.length n]),(14,.cells ((H 0).x) 3 [vI 0]),(15,.cells ((J 0).x) 3 [vI (f : Int)]),(16,o5 v C (ab.set U (5 : UInt8))),(500002,blkD ar),(500003,.obj ah (.loop (recBz ai)))]) rfl (congrArg (fun rr : List (List Value) => ([(7,.cells ((o 0).x) 4 [.bool false]),(11,.osl m n 73 2 (nrows nR73 e b)),(12,bag (nins nI73 e b)),(13,.cells ((l 2).x) 70 [.slice m b.length n]),(14,.cells ((H 0).x) 3 [vI 0]),(15,.cells ((J 0).x) 3 [vI (f : Int)]),(16,.osl v C 5 1 rr),(500002,blkD ar),(500003,.obj ah (.loop (recBz ai)))] : List (Nat × Ent))) (show (List.map rB ab).set U [.int .u8 5] = List.map rB (ab.set U (5 : UInt8)) from mset rB ab U (5 : UInt8))) ?_
          refine GS.inBlock ?_
          refine GS.conv (env' := [(7,pA ((H 0).x) 0),(8,pA ((J 0).x) 0),(10,.slice v ((ab.set U (5 : UInt8)).length) C),(49,vI (R.length : Int)),(50,vI (U : Int))]) (congrArg (fun vhole : Value => [(7,pA ((H 0).x) 0),(8,pA ((J 0).x) 0),(10,vhole),(49,vI (R.length : Int)),(50,vI (U : Int))]) (show ((.slice v ab.length C) : Value) = .slice v ((ab.set U (5 : UInt8)).length) C from (by simp []))) rfl ?_
          refine GS.rgM (fun _ => [(7,pA ((H 0).x) 0),(8,pA ((J 0).x) 0),(10,.slice v ((ab.set U (5 : UInt8)).length) C),(49,vI (R.length : Int)),(50,vI ((U + 1 : Nat) : Int))]) [(0,{ sp := some (vI ((U + 1 : Nat) : Int)) })] [7,8,10,49,50] [7,11,12,13,14,15,16,500002,500003] (fun _ => [((vI (IntKind.i64.wrap ((U : Int) + 1))) : Value) = vI ((U + 1 : Nat) : Int)]) (fun _ => by kernel_rfl) (fun _ => ⟨natwB (cnt1 bk) c4,trivial⟩) ?_
          intro _
          refine GS.inLoop ?_
          refine GS.rekey (env' := [(7,pA ((H 0).x) 0),(8,pA ((J 0).x) 0),(10,.slice v ((ab.set U (5 : UInt8)).length) C),(49,vI (R.length : Int)),(50,vI ((U + 1 : Nat) : Int))]) (mem' := [(7,.cells ((o 0).x) 4 [.bool false]),(11,.osl m n 73 2 (nrows nR73 e b)),(12,bag (nins nI73 e b)),(13,.cells ((l 2).x) 70 [.slice m b.length n]),(14,.cells ((H 0).x) 3 [vI 0]),(15,.cells ((J 0).x) 3 [vI (f : Int)]),(16,o5 v C (ab.set U (5 : UInt8))),(500002,blkD ar),(500003,.obj ah (.loop (recBz ai)))]) [7,8,10,49,50] [(7,7),(11,11),(12,12),(13,13),(14,14),(15,15),(16,16),(500002,500002),(500003,500003)] (by kernel_rfl) (by kernel_rfl) rfl ?_
          exact cj ⟨a5,U + 1,(ab.set U (5 : UInt8))⟩ ⟨cntN bk,hm⟩ (Nat.lt_succ_self _)
  intro an a
  refine GS.rekey (env' := [(4,pA ((o 0).x) 0),(5,.func (.func 26) #[] #[pA x5 0]),(6,pA ((l 2).x) 0),(7,pA ((H 0).x) 0),(8,pA ((J 0).x) 0),(22,.func (.func 26) #[] #[pA x5 0])]) (mem' := [(7,.cells ((o 0).x) 4 [.bool false]),(8,.osl x6 x7 59 3 (nrows nR59 x8 y3)),(9,bag (nins nI59 x8 y3)),(10,.cells x5 61 [.slice x6 y3.length x7]),(11,.osl m n 73 2 (nrows nR73 e b)),(12,bag (nins nI73 e b)),(13,.cells ((l 2).x) 70 [.slice m b.length n]),(14,.cells ((H 0).x) 3 [vI 0]),(15,.cells ((J 0).x) 3 [vI (bv.2 : Int)]),(500002,blkD an)]) [4,5,6,7,8,22] [(7,7),(8,8),(9,9),(10,10),(11,11),(12,12),(13,13),(14,14),(15,15),(500002,500002)] (by kernel_rfl) (by kernel_rfl) rfl ?_
  refine br_elim hm (fun b5 hm => ?_) (fun b5 hm => ?_)
  · skip
    refine GS.jmp0 b5 ?_
    refine GS.inBlock ?_
    refine GS.seq ?_
    refine GS.rg (fun _ => [(4,pA ((o 0).x) 0),(5,.func (.func 26) #[] #[pA x5 0]),(6,pA ((l 2).x) 0),(7,pA ((H 0).x) 0),(72,.bool false)]) (fun _ => [(7,.cells ((o 0).x) 4 [.bool false]),(8,.osl x6 x7 59 3 (nrows nR59 x8 y3)),(9,bag (nins nI59 x8 y3)),(10,.cells x5 61 [.slice x6 y3.length x7]),(11,.osl m n 73 2 (nrows nR73 e b)),(12,bag (nins nI73 e b)),(13,.cells ((l 2).x) 70 [.slice m b.length n]),(14,.cells ((H 0).x) 3 [vI 0]),(500002,blkD an)]) [(0,{ act := .load 14 0 0 [] })] [4,5,6,7,72] [7,8,9,10,11,12,13,14,500002] (fun _ => [(H 0).x = (H 0).x]) (fun _ => by kernel_rfl) (fun _ => ⟨rfl,trivial⟩) ?_
    intro _
    refine GS.cond (t := false) rfl rfl (fun hf => by cases hf) (fun _ => ?_)
    refine GS.skip ?_
    refine GS.inBlock ?_
    refine GS.seq ?_
    refine GS.seq ?_
    refine GS.rg (fun _ => [(4,pA ((o 0).x) 0),(5,.func (.func 26) #[] #[pA x5 0]),(6,pA ((l 2).x) 0),(73,vI 0)]) (fun _ => [(7,.cells ((o 0).x) 4 [.bool false]),(8,.osl x6 x7 59 3 (nrows nR59 x8 y3)),(9,bag (nins nI59 x8 y3)),(10,.cells x5 61 [.slice x6 y3.length x7]),(11,.osl m n 73 2 (nrows nR73 e b)),(12,bag (nins nI73 e b)),(13,.cells ((l 2).x) 70 [.slice m b.length n]),(500002,blkD an)]) [(0,{ act := .load 14 0 0 [] })] [4,5,6,73] [7,8,9,10,11,12,13,500002] (fun _ => [(H 0).x = (H 0).x]) (fun _ => by kernel_rfl) (fun _ => ⟨rfl,trivial⟩) ?_
    intro _
    refine GS.rg (fun L => [(4,pA ((o 0).x) 0),(5,.func (.func 26) #[] #[pA x5 0]),(6,pA ((l 2).x) 0),(7,pA ((L 0).x) 0)]) (fun L => [(7,.cells ((o 0).x) 4 [.bool false]),(8,.osl x6 x7 59 3 (nrows nR59 x8 y3)),(9,bag (nins nI59 x8 y3)),(10,.cells x5 61 [.slice x6 y3.length x7]),(11,.osl m n 73 2 (nrows nR73 e b)),(12,bag (nins nI73 e b)),(13,.cells ((l 2).x) 70 [.slice m b.length n]),(16,.cells ((L 0).x) 3 [vI 0]),(500002,blkD an)]) [(0,{ act := .new .var,key := some 16 }),(1,{ act := .store 0 0 [],key := some 16 })] [4,5,6,7] [7,8,9,10,11,12,13,16,500002] (fun L => [(L 0).x = (L 0).x,oC (vI 0)]) (fun L => by kernel_rfl) (fun L => ⟨rfl,rfl,trivial⟩) ?_
    intro L
    refine GS.rg (fun _ => [(4,pA ((o 0).x) 0),(5,.func (.func 26) #[] #[pA x5 0]),(6,pA ((l 2).x) 0),(7,pA ((L 0).x) 0)]) (fun _ => [(7,.cells ((o 0).x) 4 [.bool false]),(8,.osl x6 x7 59 3 (nrows nR59 x8 y3)),(9,bag (nins nI59 x8 y3)),(10,.cells x5 61 [.slice x6 y3.length x7]),(11,.osl m n 73 2 (nrows nR73 e b)),(12,bag (nins nI73 e b)),(13,.cells ((l 2).x) 70 [.slice m b.length n]),(16,.cells ((L 0).x) 3 [vI 1]),(500002,blkD an)]) [(0,{ act := .load 16 0 0 [] }),(2,{ act := .store 0 0 [],key := some 16 })] [4,5,6,7] [7,8,9,10,11,12,13,16,500002] (fun _ => [(L 0).x = (L 0).x,(L 0).x = (L 0).x,oC (vI 1)]) (fun _ => by kernel_rfl) (fun _ => ⟨rfl,rfl,rfl,trivial⟩) ?_
    intro _
    refine GS.inLoop ?_
    refine GS.seq ?_
    refine GS.seq ?_
    refine GS.rgM (fun _ => [(4,pA ((o 0).x) 0),(5,.func (.func 26) #[] #[pA x5 0]),(6,pA ((l 2).x) 0),(7,pA ((L 0).x) 0),(19,.bool true)]) [(0,{ act := .load 16 0 0 [] })] [4,5,6,7,19] [7,8,9,10,11,12,13,16,500002] (fun _ => [(L 0).x = (L 0).x]) (fun _ => by kernel_rfl) (fun _ => ⟨rfl,trivial⟩) ?_
    intro _
    refine GS.cond (t := true) rfl rfl (fun _ => ?_) (fun hf => by cases hf)
    refine GS.skip ?_
    refine GS.seq ?_
    refine GS.block ?_
    refine GS.seq ?_
    refine GS.rg (fun O => [(4,pA ((o 0).x) 0),(5,.func (.func 26) #[] #[pA x5 0]),(6,pA ((l 2).x) 0),(7,pA ((L 0).x) 0),(8,pA ((O 0).x) 0)]) (fun O => [(7,.cells ((o 0).x) 4 [.bool false]),(8,.osl x6 x7 59 3 (nrows nR59 x8 y3)),(9,bag (nins nI59 x8 y3)),(10,.cells x5 61 [.slice x6 y3.length x7]),(11,.osl m n 73 2 (nrows nR73 e b)),(12,bag (nins nI73 e b)),(13,.cells ((l 2).x) 70 [.slice m b.length n]),(16,.cells ((L 0).x) 3 [vI 1]),(17,.cells ((O 0).x) 3 [vI 0]),(500002,blkD an)]) [(0,{ act := .new .var,key := some 17 }),(1,{ act := .store 0 0 [],key := some 17 })] [4,5,6,7,8] [7,8,9,10,11,12,13,16,17,500002] (fun O => [(O 0).x = (O 0).x,oC (vI 0)]) (fun O => by kernel_rfl) (fun O => ⟨rfl,rfl,trivial⟩) ?_
    intro O
    refine GS.seq ?_
    refine GS.seq ?_
    refine GS.rzM (fun _ => [(4,pA ((o 0).x) 0),(5,.func (.func 26) #[] #[pA x5 0]),(6,pA ((l 2).x) 0),(7,pA ((L 0).x) 0),(8,pA ((O 0).x) 0),(22,.func (.func 26) #[] #[pA x5 0])]) [] [4,5,6,7,8,22] [7,8,9,10,11,12,13,16,17,500002] (fun _ => by kernel_rfl) ?_
    intro _
    refine GS.block ?_
    refine bnd_elim hm (fun bd cl hm => ?_)
    refine GS.rekey (env' := [(4,pA ((o 0).x) 0),(5,.func (.func 26) #[] #[pA x5 0]),(6,pA ((l 2).x) 0),(7,pA ((L 0).x) 0),(8,pA ((O 0).x) 0),(22,.func (.func 26) #[] #[pA x5 0])]) (mem' := [(7,.cells ((o 0).x) 4 [.bool false]),(8,.osl x6 x7 59 3 (nrows nR59 x8 y3)),(9,bag (nins nI59 x8 y3)),(10,.cells x5 61 [.slice x6 y3.length x7]),(11,.osl m n 73 2 (nrows nR73 e b)),(12,bag (nins nI73 e b)),(13,.cells ((l 2).x) 70 [.slice m b.length n]),(16,.cells ((L 0).x) 3 [vI 1]),(17,.cells ((O 0).x) 3 [vI 0]),(500002,blkD an)]) [4,5,6,7,8,22] [(7,7),(8,8),(9,9),(10,10),(11,11),(12,12),(13,13),(16,16),(17,17),(500002,500002)] (by kernel_rfl) (by kernel_rfl) rfl ?_
    refine GS.setMem (mem' := [(7,.cells ((o 0).x) 4 [.bool false]),(8,.osl x6 x7 59 3 (nrows nR59 x8 y3)),(9,bag (nins nI59 x8 y3)),(10,.cells x5 61 [.slice x6 y3.length x7]),(11,.osl m n 73 2 (nrows nR73 e b)),(12,bag (nins nI73 e b)),(13,.cells ((l 2).x) 70 [.slice m b.length n]),(16,.cells ((L 0).x) 3 [vI 1]),(17,.cells ((O 0).x) 3 [vI 0]),(500002,blkD an),(700120,Ent.all [])]) (fun w hw => Sat.addAll hw [] rfl rfl rfl) ?_
    refine GS.rangeFuncG (τ := Nat × Nat) (A := Unit) 500012 500013 [7,11,12,13,16,17] [7,8,9,10,11,12,13,16,17,500002] (fun t a => [.cells ((o 0).x) 4 [.bool false],.osl m n 73 2 (nrows nR73 e b),bag (nins nI73 e b),.cells ((l 2).x) 70 [.slice m b.length n],.cells ((L 0).x) 3 [vI 1],.cells ((O 0).x) 3 [vI (t.2 : Int)]]) (fun t => (bif t.1 == 0 then none else some .ret)) (0,0) bd () (mem' := fun a => [(7,.cells ((o 0).x) 4 [.bool false]),(8,.osl x6 x7 59 3 (nrows nR59 x8 y3)),(9,bag (nins nI59 x8 y3)),(10,.cells x5 61 [.slice x6 y3.length x7]),(11,.osl m n 73 2 (nrows nR73 e b)),(12,bag (nins nI73 e b)),(13,.cells ((l 2).x) 70 [.slice m b.length n]),(16,.cells ((L 0).x) 3 [vI 1]),(17,.cells ((O 0).x) 3 [vI (bd.2 : Int)]),(500002,blkD an)]) (RL := []) (itro := [.rd x6 3 (nrows nR59 x8 y3),Ent.all (nins nJ59 x8 y3),.rd (some ⟨x5,0,none⟩) 1 ([[.slice x6 y3.length x7]] : List (List Value))]) (vv := .tuple #[]) rfl rfl rfl (fun _ _ => rfl) ⟨rfl,rfl,rfl⟩ rfl (fun _ => ⟨rfl,rfl⟩) rfl rfl (by kernel_rfl) rfl (fun _ _ => rfl) (fun _ => rfl) ⟨(.inl ⟨8,_,rfl,rfl,Cov.osl_rd,fun h => by cases h⟩),(.inl ⟨9,_,rfl,rfl,(Cov.bag_all (nins_cov nC59 _ _)),fun h => by cases h⟩),(.inl ⟨10,_,rfl,rfl,Cov.cells_rd,fun h => by cases h⟩),(.inl ⟨700120,_,rfl,rfl,Cov.refl _,fun h => by cases h⟩),trivial⟩ (fun a => by kernel_rfl) ?_ ?_
    · intro aj av ak cm
      refine w___extent_Map__Extents_1 F (rfBag aj av ak (fun t => (bif t.1 == 0 then none else some .ret)) (fun t a => [.cells ((o 0).x) 4 [.bool false],.osl m n 73 2 (nrows nR73 e b),bag (nins nI73 e b),.cells ((l 2).x) 70 [.slice m b.length n],.cells ((L 0).x) 3 [vI 1],.cells ((O 0).x) 3 [vI (t.2 : Int)]])) [] aj (fun (t : Nat × Nat) (x : Int × List UInt8) => grd (t.1 = 0) ((fun (j : Nat) => (fun (cn : Int × List UInt8) => match cn with | (a1,T) => grd (j < b.length) (jn (fun (a4 : Bool) => (bif a4 then some (false,(1,j)) else grd ((T.length : Int) ≤ 9223372036854775807) (loopC (fun (b6 : List UInt8 → Option (Bool × (Nat × Nat))) (P : Nat) (Y : List UInt8) => grd (P < Y.length) (b6 (Y.set P (5 : UInt8)))) (fun (P : Nat) (Y : List UInt8) => grd (Len (j + 1)) (some (true,(0,(j + 1))))) (Int.toNat ((T.length : Int) - (0 : Int))) 0 T))) (fun (bn : Bool → Option (Bool × (Nat × Nat))) => (bif decide ((j : Int) ≥ (b.length : Int)) then bn true else (bif a1 != ((b.getD j dS_tholeref05_Run).At) then bn true else (m_tholeref01_Same F T ((b.getD j dS_tholeref05_Run).B)).bind (fun bj => bn (!bj))))))) x) t.2)) (fun t a z D a1 T y hm => ?_) (0,0) () x5 x6 x7 x8 y3 cl
      obtain ⟨j0,j⟩ := t
      try dsimp only at hm
      refine grd_elim hm (fun h0 hq => ?_)
      clear hm
      replace h0 : j0 = 0 := h0
      subst h0
      have hm := hq
      clear hq
      try dsimp only at hm
      refine cm (X := Unit) (0,j) a #[vI a1,.slice z T.length D] (fun _ => .bool y.1) [o5 z D T] (fun a' => [bag (rfBag aj av ak (fun t => (bif t.1 == 0 then none else some .ret)) (fun t a => [.cells ((o 0).x) 4 [.bool false],.osl m n 73 2 (nrows nR73 e b),bag (nins nI73 e b),.cells ((l 2).x) 70 [.slice m b.length n],.cells ((L 0).x) 3 [vI 1],.cells ((O 0).x) 3 [vI (t.2 : Int)]]) y.2 a')]) rfl rfl (fun w => ?_)
      refine GS.rekey (env' := [(4,pA ((o 0).x) 0),(6,pA ((l 2).x) 0),(7,pA ((L 0).x) 0),(8,pA ((O 0).x) 0),(23,vI a1),(24,.slice z T.length D)]) (mem' := [(700130,bag (rfBag aj av ak (fun t => (bif t.1 == 0 then none else some .ret)) (fun t a => [.cells ((o 0).x) 4 [.bool false],.osl m n 73 2 (nrows nR73 e b),bag (nins nI73 e b),.cells ((l 2).x) 70 [.slice m b.length n],.cells ((L 0).x) 3 [vI 1],.cells ((O 0).x) 3 [vI (t.2 : Int)]]) (0,j) a)),(700131,o5 z D T),(700132,Ent.all [])]) [4,6,7,8,23,24] [(700130,1),(700131,2),(700132,3)] (by kernel_rfl) (by kernel_rfl) rfl ?_
      refine GS.setMem (mem' := [(7,.cells ((o 0).x) 4 [.bool false]),(11,.osl m n 73 2 (nrows nR73 e b)),(12,bag (nins nI73 e b)),(13,.cells ((l 2).x) 70 [.slice m b.length n]),(16,.cells ((L 0).x) 3 [vI 1]),(17,.cells ((O 0).x) 3 [vI (j : Int)]),(500012,blkD av),(500013,.obj aj (.loop (recRd ak))),(700131,o5 z D T),(700132,Ent.all [])]) (fun w hw => unbag_mem (k := 700130) (nk := [500012,500013,7,11,12,13,16,17]) (keys := [7,11,12,13,16,17,500012,500013,700131,700132]) hw rfl rfl rfl rfl (by kernel_rfl)) ?_
      refine GS.rekey (env' := [(4,pA ((o 0).x) 0),(6,pA ((l 2).x) 0),(7,pA ((L 0).x) 0),(8,pA ((O 0).x) 0),(23,vI a1),(24,.slice z T.length D)]) (mem' := [(7,.cells ((o 0).x) 4 [.bool false]),(11,.osl m n 73 2 (nrows nR73 e b)),(12,bag (nins nI73 e b)),(13,.cells ((l 2).x) 70 [.slice m b.length n]),(16,.cells ((L 0).x) 3 [vI 1]),(17,.cells ((O 0).x) 3 [vI (j : Int)]),(18,o5 z D T),(500012,blkD av),(500013,.obj aj (.loop (recRd ak)))]) [4,6,7,8,23,24] [(7,7),(11,11),(12,12),(13,13),(16,16),(17,17),(18,700131),(500012,500012),(500013,500013)] (by kernel_rfl) (by kernel_rfl) rfl ?_
      refine GS.seq ?_
      refine GS.rzM (fun _ => [(4,pA ((o 0).x) 0),(6,pA ((l 2).x) 0),(7,pA ((L 0).x) 0),(8,pA ((O 0).x) 0),(9,vI a1),(24,.slice z T.length D)]) [] [4,6,7,8,9,24] [7,11,12,13,16,17,18,500012,500013] (fun _ => by kernel_rfl) ?_
      intro _
      refine GS.rzM (fun _ => [(4,pA ((o 0).x) 0),(6,pA ((l 2).x) 0),(7,pA ((L 0).x) 0),(8,pA ((O 0).x) 0),(9,vI a1),(10,.slice z T.length D)]) [] [4,6,7,8,9,10] [7,11,12,13,16,17,18,500012,500013] (fun _ => by kernel_rfl) ?_
      intro _
      refine GS.beginRound 500013 rfl rfl rfl rfl ?_
      refine GS.conv (mem' := [(7,.cells ((o 0).x) 4 [.bool false]),(11,.osl m n 73 2 (nrows nR73 e b)),(12,bag (nins nI73 e b)),(13,.cells ((l 2).x) 70 [.slice m b.length n]),(16,.cells ((L 0).x) 3 [vI 1]),(17,.cells ((O 0).x) 3 [vI (j : Int)]),(18,o5 z D T),(500012,blkD av),(500013,.obj aj (.loop (recBz ak)))]) rfl rfl ?_
      refine GS.block ?_
      refine GS.seq ?_
      refine GS.seq ?_
      refine grd_elim hm (fun bc hm => ?_)
      refine GS.setMem (mem' := [(7,.cells ((o 0).x) 4 [.bool false]),(11,.osl m n 73 2 (nrows nR73 e b)),(12,bag (nins nI73 (updH e j nilH) (b.set j dS_tholeref05_Run))),(13,.cells ((l 2).x) 70 [.slice m b.length n]),(16,.cells ((L 0).x) 3 [vI 1]),(17,.cells ((O 0).x) 3 [vI (j : Int)]),(18,o5 z D T),(500012,blkD av),(500013,.obj aj (.loop (recBz ak))),(500014,o5 (((e j) 0).1) (((e j) 0).2) ((b.getD j dS_tholeref05_Run).B))]) (fun w hw => nest_out (K := 12) (nk := [500014]) (d := dS_tholeref05_Run) [7,11,12,13,16,17,18,500012,500013,500014] nilH dS_tholeref05_Run hw rfl bc nE73 rfl rfl (by kernel_rfl)) ?_
      refine jn_elim hm (fun bn co hm => ?_)
      refine GS.cut (ι := Bool) (I := fun (a4 : Bool) => bn a4 = some y) (E := fun (a4 : Bool) => [(4,pA ((o 0).x) 0),(7,pA ((L 0).x) 0),(8,pA ((O 0).x) 0),(10,.slice z T.length D),(47,.bool a4)]) (M := fun (a4 : Bool) => [(7,.cells ((o 0).x) 4 [.bool false]),(11,.osl m n 73 2 (nrows nR73 e b)),(12,bag (nins nI73 e b)),(13,.cells ((l 2).x) 70 [.slice m b.length n]),(16,.cells ((L 0).x) 3 [vI 1]),(17,.cells ((O 0).x) 3 [vI (j : Int)]),(18,o5 z D T),(500012,blkD av),(500013,.obj aj (.loop (recBz ak)))]) ?_ ?_
      rotate_left
      · intro b7
        refine br_elim hm (fun bx hm => ?_) (fun bx hm => ?_)
        · skip
          refine GS.rgM (fun _ => [(4,pA ((o 0).x) 0),(7,pA ((L 0).x) 0),(8,pA ((O 0).x) 0),(10,.slice z T.length D),(47,.bool true)]) [(0,{ act := .load 17 0 0 [] }),(1,{ act := .load 13 0 0 [] }),(4,{ sp := some (.bool true) })] [4,7,8,10,47] [7,11,12,13,16,17,18,500012,500013,500014] (fun _ => [(O 0).x = (O 0).x,(l 2).x = (l 2).x,((.bool (decide ((j : Int) ≥ (b.length : Int)))) : Value) = .bool true]) (fun _ => by kernel_rfl) (fun _ => ⟨rfl,rfl,bool_eq bx,trivial⟩) ?_
          intro _
          refine GS.setMem (mem' := [(7,.cells ((o 0).x) 4 [.bool false]),(11,.osl m n 73 2 (nrows nR73 e b)),(12,bag (nins nI73 e b)),(13,.cells ((l 2).x) 70 [.slice m b.length n]),(16,.cells ((L 0).x) 3 [vI 1]),(17,.cells ((O 0).x) 3 [vI (j : Int)]),(18,o5 z D T),(500012,blkD av),(500013,.obj aj (.loop (recBz ak)))]) (fun w hw => nest_back (K := 12) (nk := [500014]) [7,11,12,13,16,17,18,500012,500013] dS_tholeref05_Run hw rfl (bc) rfl rfl rfl (by kernel_rfl)) ?_
          refine GS.rekey (env' := [(4,pA ((o 0).x) 0),(7,pA ((L 0).x) 0),(8,pA ((O 0).x) 0),(10,.slice z T.length D),(47,.bool true)]) (mem' := [(7,.cells ((o 0).x) 4 [.bool false]),(11,.osl m n 73 2 (nrows nR73 e b)),(12,bag (nins nI73 e b)),(13,.cells ((l 2).x) 70 [.slice m b.length n]),(16,.cells ((L 0).x) 3 [vI 1]),(17,.cells ((O 0).x) 3 [vI (j : Int)]),(18,o5 z D T),(500012,blkD av),(500013,.obj aj (.loop (recBz ak)))]) [4,7,8,10,47] [(7,7),(11,11),(12,12),(13,13),(16,16),(17,17),(18,18),(500012,500012),(500013,500013)] (by kernel_rfl) (by kernel_rfl) rfl ?_
          exact b7 true hm
        · skip
          refine br_elim hm (fun b8 hm => ?_) (fun b8 hm => ?_)
          · skip
            refine GS.rgM (fun _ => [(4,pA ((o 0).x) 0),(7,pA ((L 0).x) 0),(8,pA ((O 0).x) 0),(10,.slice z T.length D),(47,.bool true)]) [(0,{ act := .load 17 0 0 [] }),(1,{ act := .load 13 0 0 [] }),(4,{ sp := some (.bool false) }),(6,{ act := .load 13 0 0 [] }),(7,{ act := .load 17 0 0 [] }),(8,{ act := .idx 11 j }),(10,{ act := .load 11 j 0 [vI ((b.getD j dS_tholeref05_Run).At),.slice (((e j) 0).1) (((b.getD j dS_tholeref05_Run).B).length) (((e j) 0).2)] }),(13,{ sp := some (.bool true) })] [4,7,8,10,47] [7,11,12,13,16,17,18,500012,500013,500014] (fun _ => [(O 0).x = (O 0).x,(l 2).x = (l 2).x,((.bool (decide ((j : Int) ≥ (b.length : Int)))) : Value) = .bool false,(l 2).x = (l 2).x,(O 0).x = (O 0).x,m = m,b.length = (nrows nR73 e b).length,((j : Int) : Int) = (j : Int),j < b.length,blk m = blk m,offs m + j * 2 = offs m + (j * 2 + 0),(nrows nR73 e b)[j]? = some [vI ((b.getD j dS_tholeref05_Run).At),.slice (((e j) 0).1) (((b.getD j dS_tholeref05_Run).B).length) (((e j) 0).2)],((.bool (a1 != ((b.getD j dS_tholeref05_Run).At))) : Value) = .bool true]) (fun _ => by kernel_rfl) (fun _ => ⟨rfl,rfl,bool_eq bx,rfl,rfl,rfl,(nrows_len nR73 e b).symm,rfl,bc,rfl,rfl,nrows_at nR73 dS_tholeref05_Run e b bc,bool_eq b8,trivial⟩) ?_
            intro _
            refine GS.setMem (mem' := [(7,.cells ((o 0).x) 4 [.bool false]),(11,.osl m n 73 2 (nrows nR73 e b)),(12,bag (nins nI73 e b)),(13,.cells ((l 2).x) 70 [.slice m b.length n]),(16,.cells ((L 0).x) 3 [vI 1]),(17,.cells ((O 0).x) 3 [vI (j : Int)]),(18,o5 z D T),(500012,blkD av),(500013,.obj aj (.loop (recBz ak)))]) (fun w hw => nest_back (K := 12) (nk := [500014]) [7,11,12,13,16,17,18,500012,500013] dS_tholeref05_Run hw rfl (bc) rfl rfl rfl (by kernel_rfl)) ?_
            refine GS.rekey (env' := [(4,pA ((o 0).x) 0),(7,pA ((L 0).x) 0),(8,pA ((O 0).x) 0),(10,.slice z T.length D),(47,.bool true)]) (mem' := [(7,.cells ((o 0).x) 4 [.bool false]),(11,.osl m n 73 2 (nrows nR73 e b)),(12,bag (nins nI73 e b)),(13,.cells ((l 2).x) 70 [.slice m b.length n]),(16,.cells ((L 0).x) 3 [vI 1]),(17,.cells ((O 0).x) 3 [vI (j : Int)]),(18,o5 z D T),(500012,blkD av),(500013,.obj aj (.loop (recBz ak)))]) [4,7,8,10,47] [(7,7),(11,11),(12,12),(13,13),(16,16),(17,17),(18,18),(500012,500012),(500013,500013)] (by kernel_rfl) (by kernel_rfl) rfl ?_
            exact b7 true hm
          · skip
            refine bnd_elim hm (fun bj c8 hm => ?_)
            refine GS.rgM (fun _ => [(4,pA ((o 0).x) 0),(7,pA ((L 0).x) 0),(8,pA ((O 0).x) 0),(10,.slice z T.length D),(47,.bool (!bj))]) [(0,{ act := .load 17 0 0 [] }),(1,{ act := .load 13 0 0 [] }),(4,{ sp := some (.bool false) }),(6,{ act := .load 13 0 0 [] }),(7,{ act := .load 17 0 0 [] }),(8,{ act := .idx 11 j }),(10,{ act := .load 11 j 0 [vI ((b.getD j dS_tholeref05_Run).At),.slice (((e j) 0).1) (((b.getD j dS_tholeref05_Run).B).length) (((e j) 0).2)] }),(13,{ sp := some (.bool false) }),(15,{ act := .load 13 0 0 [] }),(16,{ act := .load 17 0 0 [] }),(17,{ act := .idx 11 j }),(19,{ act := .load 11 j 1 [vI ((b.getD j dS_tholeref05_Run).At),.slice (((e j) 0).1) (((b.getD j dS_tholeref05_Run).B).length) (((e j) 0).2)] }),(20,{ act := .call [18,500014] (.bool bj) })] [4,7,8,10,47] [7,11,12,13,16,17,18,500012,500013,500014] (fun _ => [(O 0).x = (O 0).x,(l 2).x = (l 2).x,((.bool (decide ((j : Int) ≥ (b.length : Int)))) : Value) = .bool false,(l 2).x = (l 2).x,(O 0).x = (O 0).x,m = m,b.length = (nrows nR73 e b).length,((j : Int) : Int) = (j : Int),j < b.length,blk m = blk m,offs m + j * 2 = offs m + (j * 2 + 0),(nrows nR73 e b)[j]? = some [vI ((b.getD j dS_tholeref05_Run).At),.slice (((e j) 0).1) (((b.getD j dS_tholeref05_Run).B).length) (((e j) 0).2)],((.bool (a1 != ((b.getD j dS_tholeref05_Run).At))) : Value) = .bool false,(l 2).x = (l 2).x,(O 0).x = (O 0).x,m = m,b.length = (nrows nR73 e b).length,((j : Int) : Int) = (j : Int),j < b.length,blk m = blk m,offs m + j * 2 + 1 = offs m + (j * 2 + 1),(nrows nR73 e b)[j]? = some [vI ((b.getD j dS_tholeref05_Run).At),.slice (((e j) 0).1) (((b.getD j dS_tholeref05_Run).B).length) (((e j) 0).2)],CallOK Try.prog 12 #[.slice z T.length D,.slice (((e j) 0).1) (((b.getD j dS_tholeref05_Run).B).length) (((e j) 0).2)] (.bool bj) [some (o5 z D T),some (o5 (((e j) 0).1) (((e j) 0).2) ((b.getD j dS_tholeref05_Run).B))]]) (fun _ => by kernel_rfl) (fun _ => ⟨rfl,rfl,bool_eq bx,rfl,rfl,rfl,(nrows_len nR73 e b).symm,rfl,bc,rfl,rfl,nrows_at nR73 dS_tholeref05_Run e b bc,bool_eq b8,rfl,rfl,rfl,(nrows_len nR73 e b).symm,rfl,bc,rfl,(Nat.add_assoc ..),nrows_at nR73 dS_tholeref05_Run e b bc,(by have h1 := w_tholeref01_Same F z D T (((e j) 0).1) (((e j) 0).2) ((b.getD j dS_tholeref05_Run).B) c8; exact h1.ok ⟨(.inl ⟨o5 z D T,.head _,Cov.osl_rd⟩),(.inl ⟨o5 (((e j) 0).1) (((e j) 0).2) ((b.getD j dS_tholeref05_Run).B),(.tail _ (.head _)),Cov.osl_rd⟩),trivial⟩),trivial⟩) ?_
            intro _
            refine GS.setMem (mem' := [(7,.cells ((o 0).x) 4 [.bool false]),(11,.osl m n 73 2 (nrows nR73 e b)),(12,bag (nins nI73 e b)),(13,.cells ((l 2).x) 70 [.slice m b.length n]),(16,.cells ((L 0).x) 3 [vI 1]),(17,.cells ((O 0).x) 3 [vI (j : Int)]),(18,o5 z D T),(500012,blkD av),(500013,.obj aj (.loop (recBz ak)))]) (fun w hw => nest_back (K := 12) (nk := [500014]) [7,11,12,13,16,17,18,500012,500013] dS_tholeref05_Run hw rfl (bc) rfl rfl rfl (by kernel_rfl)) ?_
            refine GS.rekey (env' := [(4,pA ((o 0).x) 0),(7,pA ((L 0).x) 0),(8,pA ((O 0).x) 0),(10,.slice z T.length D),(47,.bool (!bj))]) (mem' := [(7,.cells ((o 0).x) 4 [.bool false]),(11,.osl m n 73 2 (nrows nR73 e b)),(12,bag (nins nI73 e b)),(13,.cells ((l 2).x) 70 [.slice m b.length n]),(16,.cells ((L 0).x) 3 [vI 1]),(17,.cells ((O 0).x) 3 [vI (j : Int)]),(18,o5 z D T),(500012,blkD av),(500013,.obj aj (.loop (recBz ak)))]) [4,7,8,10,47] [(7,7),(11,11),(12,12),(13,13),(16,16),(17,17),(18,18),(500012,500012),(500013,500013)] (by kernel_rfl) (by kernel_rfl) rfl ?_
            exact b7 (!bj) hm
      · rintro a4 hm
        replace hm := (co _).symm.trans hm
        try dsimp only at hm
        refine GS.cond (t := a4) rfl rfl (fun b9 => ?_) (fun b9 => ?_)
        · replace hm := br_t b9 hm
          refine GS.seq ?_
          refine GS.rg (fun _ => []) (fun _ => [(7,.cells ((o 0).x) 4 [.bool false]),(11,.osl m n 73 2 (nrows nR73 e b)),(12,bag (nins nI73 e b)),(13,.cells ((l 2).x) 70 [.slice m b.length n]),(16,.cells ((L 0).x) 3 [vI 1]),(17,.cells ((O 0).x) 3 [vI (j : Int)]),(500012,blkD av),(500013,.obj aj (.loop (recBz ak)))]) [(0,{ act := .store 0 0 [],key := some 7 })] [] [7,11,12,13,16,17,500012,500013] (fun _ => [(o 0).x = (o 0).x,oC (.bool false)]) (fun _ => by kernel_rfl) (fun _ => ⟨rfl,rfl,trivial⟩) ?_
          intro _
          have hy := Option.some.inj hm
          subst hy
          refine GS.rekey (env' := []) (mem' := [(7,.cells ((o 0).x) 4 [.bool false]),(11,.osl m n 73 2 (nrows nR73 e b)),(12,bag (nins nI73 e b)),(13,.cells ((l 2).x) 70 [.slice m b.length n]),(16,.cells ((L 0).x) 3 [vI 1]),(17,.cells ((O 0).x) 3 [vI (j : Int)]),(500012,blkD av),(500013,.obj aj (.loop (recBz ak)))]) [] [(7,7),(11,11),(12,12),(13,13),(16,16),(17,17),(500012,500012),(500013,500013)] (by kernel_rfl) (by kernel_rfl) rfl ?_
          refine GS.roundRet 500013 rfl rfl rfl rfl rfl (fun w' hs => ⟨(),rfl,TurnsG.bag (es' := [blkD av,.obj aj (.loop (recJ ak .ret)),.cells ((o 0).x) 4 [.bool false],.osl m n 73 2 (nrows nR73 e b),bag (nins nI73 e b),.cells ((l 2).x) 70 [.slice m b.length n],.cells ((L 0).x) 3 [vI 1],.cells ((O 0).x) 3 [vI (j : Int)]]) (hs.turnedG (ks := [500012,500013,7,11,12,13,16,17]) rfl rfl) rfl⟩)
        · replace hm := br_f b9 hm
          refine GS.skip ?_
          refine GS.seq ?_
          refine GS.seq ?_
          refine GS.rzM (fun _ => [(7,pA ((L 0).x) 0),(8,pA ((O 0).x) 0),(10,.slice z T.length D),(49,vI (T.length : Int)),(50,vI 0)]) [] [7,8,10,49,50] [7,11,12,13,16,17,18,500012,500013] (fun _ => by kernel_rfl) ?_
          intro _
          refine GS.block ?_
          refine GS.loop ?_
          refine GS.know (p := b.length ≤ n) (fun w hw => by first | (have h := (hw.ok 11 _ rfl).1.1; rw [List.length_map] at h; exact h) | (have h := (hw.ok 11 _ rfl).1.1; rw [nrows_len] at h; exact h) | simpa using (hw.ok 11 _ rfl).1.1) (fun c9 => ?_)
          refine GS.know (p := T.length ≤ D) (fun w hw => by first | (have h := (hw.ok 18 _ rfl).1.1; rw [List.length_map] at h; exact h) | (have h := (hw.ok 18 _ rfl).1.1; rw [nrows_len] at h; exact h) | simpa using (hw.ok 18 _ rfl).1.1) (fun da => ?_)
          refine grd_elim hm (fun cp hm => ?_)
          refine GS.rekey (env' := [(7,pA ((L 0).x) 0),(8,pA ((O 0).x) 0),(10,.slice z T.length D),(49,vI (T.length : Int)),(50,vI 0)]) (mem' := [(7,.cells ((o 0).x) 4 [.bool false]),(11,.osl m n 73 2 (nrows nR73 e b)),(12,bag (nins nI73 e b)),(13,.cells ((l 2).x) 70 [.slice m b.length n]),(16,.cells ((L 0).x) 3 [vI 1]),(17,.cells ((O 0).x) 3 [vI (j : Int)]),(18,o5 z D T),(500012,blkD av),(500013,.obj aj (.loop (recBz ak)))]) [7,8,10,49,50] [(7,7),(11,11),(12,12),(13,13),(16,16),(17,17),(18,18),(500012,500012),(500013,500013)] (by kernel_rfl) (by kernel_rfl) rfl ?_
          refine loopC_elim hm (fun st130 fn131 hst132 hfn133 hm => ?_)
          refine GS.loopInv (ι := Nat × Nat × List UInt8) (I := fun ⟨ay,P,Y⟩ => (((T.length : Int)) - (P : Int) : Int).toNat = ay ∧ loopC st130 fn131 ay P Y = some y) (μ := fun ⟨ay,P,Y⟩ => ay) (E := fun ⟨ay,P,Y⟩ => [(7,pA ((L 0).x) 0),(8,pA ((O 0).x) 0),(10,.slice z Y.length D),(49,vI (T.length : Int)),(50,vI (P : Int))]) (M := fun ⟨ay,P,Y⟩ => [(7,.cells ((o 0).x) 4 [.bool false]),(11,.osl m n 73 2 (nrows nR73 e b)),(12,bag (nins nI73 e b)),(13,.cells ((l 2).x) 70 [.slice m b.length n]),(16,.cells ((L 0).x) 3 [vI 1]),(17,.cells ((O 0).x) 3 [vI (j : Int)]),(18,o5 z D Y),(500012,blkD av),(500013,.obj aj (.loop (recBz ak)))]) ?_ ⟨(Int.toNat ((T.length : Int) - (0 : Int))),0,T⟩ ⟨rfl,hm⟩
          rintro ⟨ay,P,Y⟩ ⟨bf,hm⟩ ca
          cases ay with
          | zero =>
            replace hm := (hfn133 _ _).symm.trans hm
            try dsimp only at hm
            refine GS.seq ?_
            refine GS.rzM (fun _ => [(7,pA ((L 0).x) 0),(8,pA ((O 0).x) 0),(10,.slice z Y.length D),(49,vI (T.length : Int)),(50,vI (P : Int)),(51,.bool (decide ((P : Int) < (T.length : Int))))]) [] [7,8,10,49,50,51] [7,11,12,13,16,17,18,500012,500013] (fun _ => by kernel_rfl) ?_
            intro _
            refine GS.seq ?_
            refine GS.cond (t := decide ((P : Int) < (T.length : Int))) rfl rfl (fun cq => absb cq (cnt0 bf)) (fun _ => ?_)
            refine GS.exit rfl ?_
            refine GS.seq ?_
            refine grd_elim hm (fun cr hm => ?_)
            refine GS.rg (fun _ => [(7,pA ((L 0).x) 0),(8,pA ((O 0).x) 0)]) (fun _ => [(7,.cells ((o 0).x) 4 [.bool false]),(11,.osl m n 73 2 (nrows nR73 e b)),(12,bag (nins nI73 e b)),(13,.cells ((l 2).x) 70 [.slice m b.length n]),(16,.cells ((L 0).x) 3 [vI 1]),(17,.cells ((O 0).x) 3 [vI ((j + 1 : Nat) : Int)]),(500012,blkD av),(500013,.obj aj (.loop (recBz ak)))]) [(0,{ act := .load 17 0 0 [] }),(1,{ sp := some (vI ((j + 1 : Nat) : Int)) }),(2,{ act := .store 0 0 [],key := some 17 })] [7,8] [7,11,12,13,16,17,500012,500013] (fun _ => [(O 0).x = (O 0).x,((vI (IntKind.i64.wrap ((j : Int) + 1))) : Value) = vI ((j + 1 : Nat) : Int),(O 0).x = (O 0).x,oC (vI ((j + 1 : Nat) : Int))]) (fun _ => by kernel_rfl) (fun _ => ⟨rfl,natw2 cr,rfl,rfl,trivial⟩) ?_
            intro _
            refine GS.seq ?_
            refine GS.rgM (fun _ => [(64,.bool false)]) [(0,{ act := .load 16 0 0 [] })] [64] [7,11,12,13,16,17,500012,500013] (fun _ => [(L 0).x = (L 0).x]) (fun _ => by kernel_rfl) (fun _ => ⟨rfl,trivial⟩) ?_
            intro _
            refine GS.cond (t := false) rfl rfl (fun hf => by cases hf) (fun _ => ?_)
            refine GS.skip ?_
            refine GS.inBlock ?_
            have hy := Option.some.inj hm
            subst hy
            refine GS.rekey (env' := []) (mem' := [(7,.cells ((o 0).x) 4 [.bool false]),(11,.osl m n 73 2 (nrows nR73 e b)),(12,bag (nins nI73 e b)),(13,.cells ((l 2).x) 70 [.slice m b.length n]),(16,.cells ((L 0).x) 3 [vI 1]),(17,.cells ((O 0).x) 3 [vI ((j + 1 : Nat) : Int)]),(500012,blkD av),(500013,.obj aj (.loop (recBz ak)))]) [] [(7,7),(11,11),(12,12),(13,13),(16,16),(17,17),(500012,500012),(500013,500013)] (by kernel_rfl) (by kernel_rfl) rfl ?_
            refine GS.roundEnd 500013 rfl rfl rfl rfl rfl (fun w' hs => ⟨(),rfl,TurnsG.bag (es' := [blkD av,.obj aj (.loop (recRd ak)),.cells ((o 0).x) 4 [.bool false],.osl m n 73 2 (nrows nR73 e b),bag (nins nI73 e b),.cells ((l 2).x) 70 [.slice m b.length n],.cells ((L 0).x) 3 [vI 1],.cells ((O 0).x) 3 [vI ((j + 1 : Nat) : Int)]]) (hs.turnedG (ks := [500012,500013,7,11,12,13,16,17]) rfl rfl) rfl⟩)
          | succ ay =>
            replace hm := (hst132 _ _ _).symm.trans hm
            try dsimp only at hm
            refine GS.seq ?_
            refine GS.rzM (fun _ => [(7,pA ((L 0).x) 0),(8,pA ((O 0).x) 0),(10,.slice z Y.length D),(49,vI (T.length : Int)),(50,vI (P : Int)),(51,.bool (decide ((P : Int) < (T.length : Int))))]) [] [7,8,10,49,50,51] [7,11,12,13,16,17,18,500012,500013] (fun _ => by kernel_rfl) ?_
            intro _
            refine GS.seq ?_
            refine GS.cond (t := decide ((P : Int) < (T.length : Int))) rfl rfl (fun _ => ?_) (fun cs => absb (cnt1 bf) cs)
            refine GS.skip ?_
            refine GS.seq ?_
            refine GS.block ?_
            refine GS.seq ?_
            refine GS.rzM (fun _ => [(7,pA ((L 0).x) 0),(8,pA ((O 0).x) 0),(10,.slice z Y.length D),(11,vI (P : Int)),(49,vI (T.length : Int)),(50,vI (P : Int))]) [] [7,8,10,11,49,50] [7,11,12,13,16,17,18,500012,500013] (fun _ => by kernel_rfl) ?_
            intro _
            refine grd_elim hm (fun bz hm => ?_)
            refine GS.rg (fun _ => [(7,pA ((L 0).x) 0),(8,pA ((O 0).x) 0),(10,.slice z Y.length D),(49,vI (T.length : Int)),(50,vI (P : Int))]) (fun _ => [(7,.cells ((o 0).x) 4 [.bool false]),(11,.osl m n 73 2 (nrows nR73 e b)),(12,bag (nins nI73 e b)),(13,.cells ((l 2).x) 70 [.slice m b.length n]),(16,.cells ((L 0).x) 3 [vI 1]),(17,.cells ((O 0).x) 3 [vI (j : Int)]),(18,.osl z D 5 1 ((List.map rB Y).set P [.int .u8 5])),(500012,blkD av),(500013,.obj aj (.loop (recBz ak)))]) [(2,{ act := .idx 18 P }),(3,{ act := .store P 0 [.int .u8 (((Y.getD P 0).toNat : Nat) : Int)],key := some 18 })] [7,8,10,49,50] [7,11,12,13,16,17,18,500012,500013] (fun _ => [z = z,Y.length = (List.map rB Y).length,((P : Int) : Int) = (P : Int),P < Y.length,blk z = blk z,offs z + P * 1 = offs z + (P * 1 + 0),(List.map rB Y)[P]? = some [.int .u8 (((Y.getD P 0).toNat : Nat) : Int)],oC (.int .u8 5)]) (fun _ => by kernel_rfl) (fun _ => ⟨rfl,mlen rB Y,rfl,bz,rfl,rfl,map_at rB 0 bz,rfl,trivial⟩) ?_
            intro _
            refine GS.conv (mem' := [(7,.cells ((o 0).x) 4 [.bool false]),(11,.osl m n 73 2 (nrows nR73 e b)),(12,bag (nins nI73 e b)),(13,.cells ((l 2).x) 70 [.slice m b.length n]),(16,.cells ((L 0).x) 3 [vI 1]),(17,.cells ((O 0).x) 3 [vI (j : Int)]),(18,o5 z D (Y.set P (5 : UInt8))),(500012,blkD av),(500013,.obj aj (.loop (recBz ak)))]) rfl (congrArg (fun rr : List (List Value) => ([(7,.cells ((o 0).x) 4 [.bool false]),(11,.osl m n 73 2 (nrows nR73 e b)),(12,bag (nins nI73 e b)),(13,.cells ((l 2).x) 70 [.slice m b.length n]),(16,.cells ((L 0).x) 3 [vI 1]),(17,.cells ((O 0).x) 3 [vI (j : Int)]),(18,.osl z D 5 1 rr),(500012,blkD av),(500013,.obj aj (.loop (recBz ak)))] : List (Nat × Ent))) (show (List.map rB Y).set P [.int .u8 5] = List.map rB (Y.set P (5 : UInt8)) from mset rB Y P (5 : UInt8))) ?_
            refine GS.inBlock ?_
            refine GS.conv (env' := [(7,pA ((L 0).x) 0),(8,pA ((O 0).x) 0),(10,.slice z ((Y.set P (5 : UInt8)).length) D),(49,vI (T.length : Int)),(50,vI (P : Int))]) (congrArg (fun vhole : Value => [(7,pA ((L 0).x) 0),(8,pA ((O 0).x) 0),(10,vhole),(49,vI (T.length : Int)),(50,vI (P : Int))]) (show ((.slice z Y.length D) : Value) = .slice z ((Y.set P (5 : UInt8)).length) D from (by simp []))) rfl ?_
            refine GS.rgM (fun _ => [(7,pA ((L 0).x) 0),(8,pA ((O 0).x) 0),(10,.slice z ((Y.set P (5 : UInt8)).length) D),(49,vI (T.length : Int)),(50,vI ((P + 1 : Nat) : Int))]) [(0,{ sp := some (vI ((P + 1 : Nat) : Int)) })] [7,8,10,49,50] [7,11,12,13,16,17,18,500012,500013] (fun _ => [((vI (IntKind.i64.wrap ((P : Int) + 1))) : Value) = vI ((P + 1 : Nat) : Int)]) (fun _ => by kernel_rfl) (fun _ => ⟨natwB (cnt1 bf) cp,trivial⟩) ?_
            intro _
            refine GS.inLoop ?_
            refine GS.rekey (env' := [(7,pA ((L 0).x) 0),(8,pA ((O 0).x) 0),(10,.slice z ((Y.set P (5 : UInt8)).length) D),(49,vI (T.length : Int)),(50,vI ((P + 1 : Nat) : Int))]) (mem' := [(7,.cells ((o 0).x) 4 [.bool false]),(11,.osl m n 73 2 (nrows nR73 e b)),(12,bag (nins nI73 e b)),(13,.cells ((l 2).x) 70 [.slice m b.length n]),(16,.cells ((L 0).x) 3 [vI 1]),(17,.cells ((O 0).x) 3 [vI (j : Int)]),(18,o5 z D (Y.set P (5 : UInt8))),(500012,blkD av),(500013,.obj aj (.loop (recBz ak)))]) [7,8,10,49,50] [(7,7),(11,11),(12,12),(13,13),(16,16),(17,17),(18,18),(500012,500012),(500013,500013)] (by kernel_rfl) (by kernel_rfl) rfl ?_
            exact ca ⟨ay,P + 1,(Y.set P (5 : UInt8))⟩ ⟨cntN bf,hm⟩ (Nat.lt_succ_self _)
    intro a6 a
    refine GS.rekey (env' := [(4,pA ((o 0).x) 0),(5,.func (.func 26) #[] #[pA x5 0]),(6,pA ((l 2).x) 0),(7,pA ((L 0).x) 0),(8,pA ((O 0).x) 0),(22,.func (.func 26) #[] #[pA x5 0])]) (mem' := [(7,.cells ((o 0).x) 4 [.bool false]),(8,.osl x6 x7 59 3 (nrows nR59 x8 y3)),(9,bag (nins nI59 x8 y3)),(10,.cells x5 61 [.slice x6 y3.length x7]),(11,.osl m n 73 2 (nrows nR73 e b)),(12,bag (nins nI73 e b)),(13,.cells ((l 2).x) 70 [.slice m b.length n]),(16,.cells ((L 0).x) 3 [vI 1]),(17,.cells ((O 0).x) 3 [vI (bd.2 : Int)]),(500002,blkD an),(500012,blkD a6)]) [4,5,6,7,8,22] [(7,7),(8,8),(9,9),(10,10),(11,11),(12,12),(13,13),(16,16),(17,17),(500002,500002),(500012,500012)] (by kernel_rfl) (by kernel_rfl) rfl ?_
    refine br_elim hm (fun bo hm => ?_) (fun bo hm => ?_)
    · skip
      refine GS.jmp0 bo ?_
      refine GS.inBlock ?_
      refine GS.seq ?_
      refine GS.rg (fun _ => [(4,pA ((o 0).x) 0),(5,.func (.func 26) #[] #[pA x5 0]),(6,pA ((l 2).x) 0),(7,pA ((L 0).x) 0),(72,.bool ((bd.2 : Int) != (b.length : Int)))]) (fun _ => [(7,.cells ((o 0).x) 4 [.bool false]),(8,.osl x6 x7 59 3 (nrows nR59 x8 y3)),(9,bag (nins nI59 x8 y3)),(10,.cells x5 61 [.slice x6 y3.length x7]),(11,.osl m n 73 2 (nrows nR73 e b)),(12,bag (nins nI73 e b)),(13,.cells ((l 2).x) 70 [.slice m b.length n]),(16,.cells ((L 0).x) 3 [vI 1]),(500002,blkD an),(500012,blkD a6)]) [(0,{ act := .load 16 0 0 [] }),(3,{ act := .load 17 0 0 [] }),(4,{ act := .load 13 0 0 [] })] [4,5,6,7,72] [7,8,9,10,11,12,13,16,500002,500012] (fun _ => [(L 0).x = (L 0).x,(O 0).x = (O 0).x,(l 2).x = (l 2).x]) (fun _ => by kernel_rfl) (fun _ => ⟨rfl,rfl,rfl,trivial⟩) ?_
      intro _
      refine GS.cond (t := (bd.2 : Int) != (b.length : Int)) rfl rfl (fun bp => ?_) (fun bp => ?_)
      · replace hm := br_t bp hm
        refine GS.seq ?_
        refine GS.rg (fun _ => [(4,pA ((o 0).x) 0)]) (fun _ => [(7,.cells ((o 0).x) 4 [.bool false]),(500002,blkD an),(500012,blkD a6)]) [(0,{ act := .store 0 0 [],key := some 7 })] [4] [7,500002,500012] (fun _ => [(o 0).x = (o 0).x,oC (.bool false)]) (fun _ => by kernel_rfl) (fun _ => ⟨rfl,rfl,trivial⟩) ?_
        intro _
        have hy := Option.some.inj hm
        subst hy
        refine GS.retD (mem2 := [(7,.cells ((o 0).x) 4 [.bool false])]) (fn := Try.f21) [(500012,a6),(500002,an)] [7] [7] [.bool false] [(o 0).x = (o 0).x] rfl rfl Try.func21 rfl rfl rfl (by kernel_rfl) (by kernel_rfl) ⟨rfl,trivial⟩ (fun w' hs => ?_)
        exact ⟨(),rfl,hs.turnedG (ks := []) rfl rfl⟩
      · replace hm := br_f bp hm
        refine GS.skip ?_
        refine GS.inBlock ?_
        refine GS.seq ?_
        refine GS.seq ?_
        refine GS.rg (fun _ => [(4,pA ((o 0).x) 0),(5,.func (.func 26) #[] #[pA x5 0]),(6,pA ((l 2).x) 0),(73,vI 1)]) (fun _ => [(7,.cells ((o 0).x) 4 [.bool false]),(8,.osl x6 x7 59 3 (nrows nR59 x8 y3)),(9,bag (nins nI59 x8 y3)),(10,.cells x5 61 [.slice x6 y3.length x7]),(11,.osl m n 73 2 (nrows nR73 e b)),(12,bag (nins nI73 e b)),(13,.cells ((l 2).x) 70 [.slice m b.length n]),(500002,blkD an),(500012,blkD a6)]) [(0,{ act := .load 16 0 0 [] })] [4,5,6,73] [7,8,9,10,11,12,13,500002,500012] (fun _ => [(L 0).x = (L 0).x]) (fun _ => by kernel_rfl) (fun _ => ⟨rfl,trivial⟩) ?_
        intro _
        refine GS.rg (fun ao => [(4,pA ((o 0).x) 0),(5,.func (.func 26) #[] #[pA x5 0]),(6,pA ((l 2).x) 0),(7,pA ((ao 0).x) 0)]) (fun ao => [(7,.cells ((o 0).x) 4 [.bool false]),(8,.osl x6 x7 59 3 (nrows nR59 x8 y3)),(9,bag (nins nI59 x8 y3)),(10,.cells x5 61 [.slice x6 y3.length x7]),(11,.osl m n 73 2 (nrows nR73 e b)),(12,bag (nins nI73 e b)),(13,.cells ((l 2).x) 70 [.slice m b.length n]),(18,.cells ((ao 0).x) 3 [vI 1]),(500002,blkD an),(500012,blkD a6)]) [(0,{ act := .new .var,key := some 18 }),(1,{ act := .store 0 0 [],key := some 18 })] [4,5,6,7] [7,8,9,10,11,12,13,18,500002,500012] (fun ao => [(ao 0).x = (ao 0).x,oC (vI 1)]) (fun ao => by kernel_rfl) (fun ao => ⟨rfl,rfl,trivial⟩) ?_
        intro ao
        refine GS.rg (fun _ => [(4,pA ((o 0).x) 0),(5,.func (.func 26) #[] #[pA x5 0]),(6,pA ((l 2).x) 0),(7,pA ((ao 0).x) 0)]) (fun _ => [(7,.cells ((o 0).x) 4 [.bool false]),(8,.osl x6 x7 59 3 (nrows nR59 x8 y3)),(9,bag (nins nI59 x8 y3)),(10,.cells x5 61 [.slice x6 y3.length x7]),(11,.osl m n 73 2 (nrows nR73 e b)),(12,bag (nins nI73 e b)),(13,.cells ((l 2).x) 70 [.slice m b.length n]),(18,.cells ((ao 0).x) 3 [vI 2]),(500002,blkD an),(500012,blkD a6)]) [(0,{ act := .load 18 0 0 [] }),(2,{ act := .store 0 0 [],key := some 18 })] [4,5,6,7] [7,8,9,10,11,12,13,18,500002,500012] (fun _ => [(ao 0).x = (ao 0).x,(ao 0).x = (ao 0).x,oC (vI 2)]) (fun _ => by kernel_rfl) (fun _ => ⟨rfl,rfl,rfl,trivial⟩) ?_
        intro _
        refine GS.inLoop ?_
        refine GS.seq ?_
        refine GS.seq ?_
        refine GS.rgM (fun _ => [(4,pA ((o 0).x) 0),(5,.func (.func 26) #[] #[pA x5 0]),(6,pA ((l 2).x) 0),(7,pA ((ao 0).x) 0),(19,.bool false)]) [(0,{ act := .load 18 0 0 [] })] [4,5,6,7,19] [7,8,9,10,11,12,13,18,500002,500012] (fun _ => [(ao 0).x = (ao 0).x]) (fun _ => by kernel_rfl) (fun _ => ⟨rfl,trivial⟩) ?_
        intro _
        refine GS.cond (t := false) rfl rfl (fun hf => by cases hf) (fun _ => ?_)
        refine GS.exit rfl ?_
        refine GS.seq ?_
        refine GS.rg (fun _ => [(4,pA ((o 0).x) 0)]) (fun _ => [(7,.cells ((o 0).x) 4 [.bool true]),(500002,blkD an),(500012,blkD a6)]) [(0,{ act := .store 0 0 [],key := some 7 })] [4] [7,500002,500012] (fun _ => [(o 0).x = (o 0).x,oC (.bool true)]) (fun _ => by kernel_rfl) (fun _ => ⟨rfl,rfl,trivial⟩) ?_
        intro _
        have hy := Option.some.inj hm
        subst hy
        refine GS.retD (mem2 := [(7,.cells ((o 0).x) 4 [.bool true])]) (fn := Try.f21) [(500012,a6),(500002,an)] [7] [7] [.bool true] [(o 0).x = (o 0).x] rfl rfl Try.func21 rfl rfl rfl (by kernel_rfl) (by kernel_rfl) ⟨rfl,trivial⟩ (fun w' hs => ?_)
        exact ⟨(),rfl,hs.turnedG (ks := []) rfl rfl⟩
    · skip
      refine GS.jmpS bo ?_
      refine GS.jmpL ?_
      have hy := Option.some.inj hm
      subst hy
      refine GS.retD (mem2 := [(7,.cells ((o 0).x) 4 [.bool false]),(8,.osl x6 x7 59 3 (nrows nR59 x8 y3)),(9,bag (nins nI59 x8 y3)),(10,.cells x5 61 [.slice x6 y3.length x7]),(11,.osl m n 73 2 (nrows nR73 e b)),(12,bag (nins nI73 e b)),(13,.cells ((l 2).x) 70 [.slice m b.length n]),(16,.cells ((L 0).x) 3 [vI 1]),(17,.cells ((O 0).x) 3 [vI (bd.2 : Int)])]) (fn := Try.f21) [(500012,a6),(500002,an)] [7] [7,8,9,10,11,12,13,16,17] [.bool false] [(o 0).x = (o 0).x] rfl rfl Try.func21 rfl rfl rfl (by kernel_rfl) (by kernel_rfl) ⟨rfl,trivial⟩ (fun w' hs => ?_)
      exact ⟨(),rfl,hs.turnedG (ks := []) rfl rfl⟩
  · skip
    refine GS.jmpS b5 ?_
    refine br_elim hm (fun cb hm => ?_) (fun cb hm => ?_)
    · skip
      refine GS.jmp1 cb ?_
      have hy := Option.some.inj hm
      subst hy
      refine GS.retD (mem2 := [(7,.cells ((o 0).x) 4 [.bool false]),(8,.osl x6 x7 59 3 (nrows nR59 x8 y3)),(9,bag (nins nI59 x8 y3)),(10,.cells x5 61 [.slice x6 y3.length x7]),(11,.osl m n 73 2 (nrows nR73 e b)),(12,bag (nins nI73 e b)),(13,.cells ((l 2).x) 70 [.slice m b.length n]),(14,.cells ((H 0).x) 3 [vI 0]),(15,.cells ((J 0).x) 3 [vI (bv.2 : Int)])]) (fn := Try.f21) [(500002,an)] [7] [7,8,9,10,11,12,13,14,15] [.bool false] [(o 0).x = (o 0).x] rfl rfl Try.func21 rfl rfl rfl (by kernel_rfl) (by kernel_rfl) ⟨rfl,trivial⟩ (fun w' hs => ?_)
      exact ⟨(),rfl,hs.turnedG (ks := []) rfl rfl⟩
    · skip
      refine GS.jmpS cb ?_
      refine GS.jmpL ?_
      refine GS.exit rfl ?_
      refine GS.seq ?_
      refine GS.rg (fun _ => [(4,pA ((o 0).x) 0),(5,.func (.func 26) #[] #[pA x5 0]),(6,pA ((l 2).x) 0),(7,pA ((H 0).x) 0),(72,.bool false)]) (fun _ => [(7,.cells ((o 0).x) 4 [.bool false]),(8,.osl x6 x7 59 3 (nrows nR59 x8 y3)),(9,bag (nins nI59 x8 y3)),(10,.cells x5 61 [.slice x6 y3.length x7]),(11,.osl m n 73 2 (nrows nR73 e b)),(12,bag (nins nI73 e b)),(13,.cells ((l 2).x) 70 [.slice m b.length n]),(14,.cells ((H 0).x) 3 [vI 0]),(500002,blkD an)]) [(0,{ act := .load 14 0 0 [] })] [4,5,6,7,72] [7,8,9,10,11,12,13,14,500002] (fun _ => [(H 0).x = (H 0).x]) (fun _ => by kernel_rfl) (fun _ => ⟨rfl,trivial⟩) ?_
      intro _
      refine GS.cond (t := false) rfl rfl (fun hf => by cases hf) (fun _ => ?_)
      refine GS.skip ?_
      refine GS.inBlock ?_
      refine GS.seq ?_
      refine GS.seq ?_
      refine GS.rg (fun _ => [(4,pA ((o 0).x) 0),(5,.func (.func 26) #[] #[pA x5 0]),(6,pA ((l 2).x) 0),(73,vI 0)]) (fun _ => [(7,.cells ((o 0).x) 4 [.bool false]),(8,.osl x6 x7 59 3 (nrows nR59 x8 y3)),(9,bag (nins nI59 x8 y3)),(10,.cells x5 61 [.slice x6 y3.length x7]),(11,.osl m n 73 2 (nrows nR73 e b)),(12,bag (nins nI73 e b)),(13,.cells ((l 2).x) 70 [.slice m b.length n]),(500002,blkD an)]) [(0,{ act := .load 14 0 0 [] })] [4,5,6,73] [7,8,9,10,11,12,13,500002] (fun _ => [(H 0).x = (H 0).x]) (fun _ => by kernel_rfl) (fun _ => ⟨rfl,trivial⟩) ?_
      intro _
      refine GS.rg (fun r => [(4,pA ((o 0).x) 0),(5,.func (.func 26) #[] #[pA x5 0]),(6,pA ((l 2).x) 0),(7,pA ((r 0).x) 0)]) (fun r => [(7,.cells ((o 0).x) 4 [.bool false]),(8,.osl x6 x7 59 3 (nrows nR59 x8 y3)),(9,bag (nins nI59 x8 y3)),(10,.cells x5 61 [.slice x6 y3.length x7]),(11,.osl m n 73 2 (nrows nR73 e b)),(12,bag (nins nI73 e b)),(13,.cells ((l 2).x) 70 [.slice m b.length n]),(16,.cells ((r 0).x) 3 [vI 0]),(500002,blkD an)]) [(0,{ act := .new .var,key := some 16 }),(1,{ act := .store 0 0 [],key := some 16 })] [4,5,6,7] [7,8,9,10,11,12,13,16,500002] (fun r => [(r 0).x = (r 0).x,oC (vI 0)]) (fun r => by kernel_rfl) (fun r => ⟨rfl,rfl,trivial⟩) ?_
      intro r
      refine GS.rg (fun _ => [(4,pA ((o 0).x) 0),(5,.func (.func 26) #[] #[pA x5 0]),(6,pA ((l 2).x) 0),(7,pA ((r 0).x) 0)]) (fun _ => [(7,.cells ((o 0).x) 4 [.bool false]),(8,.osl x6 x7 59 3 (nrows nR59 x8 y3)),(9,bag (nins nI59 x8 y3)),(10,.cells x5 61 [.slice x6 y3.length x7]),(11,.osl m n 73 2 (nrows nR73 e b)),(12,bag (nins nI73 e b)),(13,.cells ((l 2).x) 70 [.slice m b.length n]),(16,.cells ((r 0).x) 3 [vI 1]),(500002,blkD an)]) [(0,{ act := .load 16 0 0 [] }),(2,{ act := .store 0 0 [],key := some 16 })] [4,5,6,7] [7,8,9,10,11,12,13,16,500002] (fun _ => [(r 0).x = (r 0).x,(r 0).x = (r 0).x,oC (vI 1)]) (fun _ => by kernel_rfl) (fun _ => ⟨rfl,rfl,rfl,trivial⟩) ?_
      intro _
      refine GS.inLoop ?_
      refine GS.seq ?_
      refine GS.seq ?_
      refine GS.rgM (fun _ => [(4,pA ((o 0).x) 0),(5,.func (.func 26) #[] #[pA x5 0]),(6,pA ((l 2).x) 0),(7,pA ((r 0).x) 0),(19,.bool true)]) [(0,{ act := .load 16 0 0 [] })] [4,5,6,7,19] [7,8,9,10,11,12,13,16,500002] (fun _ => [(r 0).x = (r 0).x]) (fun _ => by kernel_rfl) (fun _ => ⟨rfl,trivial⟩) ?_
      intro _
      refine GS.cond (t := true) rfl rfl (fun _ => ?_) (fun hf => by cases hf)
      refine GS.skip ?_
      refine GS.seq ?_
      refine GS.block ?_
      refine GS.seq ?_
      refine GS.rg (fun s => [(4,pA ((o 0).x) 0),(5,.func (.func 26) #[] #[pA x5 0]),(6,pA ((l 2).x) 0),(7,pA ((r 0).x) 0),(8,pA ((s 0).x) 0)]) (fun s => [(7,.cells ((o 0).x) 4 [.bool false]),(8,.osl x6 x7 59 3 (nrows nR59 x8 y3)),(9,bag (nins nI59 x8 y3)),(10,.cells x5 61 [.slice x6 y3.length x7]),(11,.osl m n 73 2 (nrows nR73 e b)),(12,bag (nins nI73 e b)),(13,.cells ((l 2).x) 70 [.slice m b.length n]),(16,.cells ((r 0).x) 3 [vI 1]),(17,.cells ((s 0).x) 3 [vI 0]),(500002,blkD an)]) [(0,{ act := .new .var,key := some 17 }),(1,{ act := .store 0 0 [],key := some 17 })] [4,5,6,7,8] [7,8,9,10,11,12,13,16,17,500002] (fun s => [(s 0).x = (s 0).x,oC (vI 0)]) (fun s => by kernel_rfl) (fun s => ⟨rfl,rfl,trivial⟩) ?_
      intro s
      refine GS.seq ?_
      refine GS.seq ?_
      refine GS.rzM (fun _ => [(4,pA ((o 0).x) 0),(5,.func (.func 26) #[] #[pA x5 0]),(6,pA ((l 2).x) 0),(7,pA ((r 0).x) 0),(8,pA ((s 0).x) 0),(22,.func (.func 26) #[] #[pA x5 0])]) [] [4,5,6,7,8,22] [7,8,9,10,11,12,13,16,17,500002] (fun _ => by kernel_rfl) ?_
      intro _
      refine GS.block ?_
      refine bnd_elim hm (fun be ct hm => ?_)
      refine GS.rekey (env' := [(4,pA ((o 0).x) 0),(5,.func (.func 26) #[] #[pA x5 0]),(6,pA ((l 2).x) 0),(7,pA ((r 0).x) 0),(8,pA ((s 0).x) 0),(22,.func (.func 26) #[] #[pA x5 0])]) (mem' := [(7,.cells ((o 0).x) 4 [.bool false]),(8,.osl x6 x7 59 3 (nrows nR59 x8 y3)),(9,bag (nins nI59 x8 y3)),(10,.cells x5 61 [.slice x6 y3.length x7]),(11,.osl m n 73 2 (nrows nR73 e b)),(12,bag (nins nI73 e b)),(13,.cells ((l 2).x) 70 [.slice m b.length n]),(16,.cells ((r 0).x) 3 [vI 1]),(17,.cells ((s 0).x) 3 [vI 0]),(500002,blkD an)]) [4,5,6,7,8,22] [(7,7),(8,8),(9,9),(10,10),(11,11),(12,12),(13,13),(16,16),(17,17),(500002,500002)] (by kernel_rfl) (by kernel_rfl) rfl ?_
      refine GS.setMem (mem' := [(7,.cells ((o 0).x) 4 [.bool false]),(8,.osl x6 x7 59 3 (nrows nR59 x8 y3)),(9,bag (nins nI59 x8 y3)),(10,.cells x5 61 [.slice x6 y3.length x7]),(11,.osl m n 73 2 (nrows nR73 e b)),(12,bag (nins nI73 e b)),(13,.cells ((l 2).x) 70 [.slice m b.length n]),(16,.cells ((r 0).x) 3 [vI 1]),(17,.cells ((s 0).x) 3 [vI 0]),(500002,blkD an),(700220,Ent.all [])]) (fun w hw => Sat.addAll hw [] rfl rfl rfl) ?_
      refine GS.rangeFuncG (τ := Nat × Nat) (A := Unit) 500022 500023 [7,11,12,13,16,17] [7,8,9,10,11,12,13,16,17,500002] (fun t a => [.cells ((o 0).x) 4 [.bool false],.osl m n 73 2 (nrows nR73 e b),bag (nins nI73 e b),.cells ((l 2).x) 70 [.slice m b.length n],.cells ((r 0).x) 3 [vI 1],.cells ((s 0).x) 3 [vI (t.2 : Int)]]) (fun t => (bif t.1 == 0 then none else some .ret)) (0,0) be () (mem' := fun a => [(7,.cells ((o 0).x) 4 [.bool false]),(8,.osl x6 x7 59 3 (nrows nR59 x8 y3)),(9,bag (nins nI59 x8 y3)),(10,.cells x5 61 [.slice x6 y3.length x7]),(11,.osl m n 73 2 (nrows nR73 e b)),(12,bag (nins nI73 e b)),(13,.cells ((l 2).x) 70 [.slice m b.length n]),(16,.cells ((r 0).x) 3 [vI 1]),(17,.cells ((s 0).x) 3 [vI (be.2 : Int)]),(500002,blkD an)]) (RL := []) (itro := [.rd x6 3 (nrows nR59 x8 y3),Ent.all (nins nJ59 x8 y3),.rd (some ⟨x5,0,none⟩) 1 ([[.slice x6 y3.length x7]] : List (List Value))]) (vv := .tuple #[]) rfl rfl rfl (fun _ _ => rfl) ⟨rfl,rfl,rfl⟩ rfl (fun _ => ⟨rfl,rfl⟩) rfl rfl (by kernel_rfl) rfl (fun _ _ => rfl) (fun _ => rfl) ⟨(.inl ⟨8,_,rfl,rfl,Cov.osl_rd,fun h => by cases h⟩),(.inl ⟨9,_,rfl,rfl,(Cov.bag_all (nins_cov nC59 _ _)),fun h => by cases h⟩),(.inl ⟨10,_,rfl,rfl,Cov.cells_rd,fun h => by cases h⟩),(.inl ⟨700220,_,rfl,rfl,Cov.refl _,fun h => by cases h⟩),trivial⟩ (fun a => by kernel_rfl) ?_ ?_
      · intro ae al af cc
        refine w___extent_Map__Extents_1 F (rfBag ae al af (fun t => (bif t.1 == 0 then none else some .ret)) (fun t a => [.cells ((o 0).x) 4 [.bool false],.osl m n 73 2 (nrows nR73 e b),bag (nins nI73 e b),.cells ((l 2).x) 70 [.slice m b.length n],.cells ((r 0).x) 3 [vI 1],.cells ((s 0).x) 3 [vI (t.2 : Int)]])) [] ae (fun (t : Nat × Nat) (x : Int × List UInt8) => grd (t.1 = 0) ((fun (c : Nat) => (fun (cu : Int × List UInt8) => match cu with | (aw,G) => grd (c < b.length) (jn (fun (ax : Bool) => (bif ax then some (false,(1,c)) else grd ((G.length : Int) ≤ 9223372036854775807) (loopC (fun (cd : List UInt8 → Option (Bool × (Nat × Nat))) (Q : Nat) (Z : List UInt8) => grd (Q < Z.length) (cd (Z.set Q (5 : UInt8)))) (fun (Q : Nat) (Z : List UInt8) => grd (Len (c + 1)) (some (true,(0,(c + 1))))) (Int.toNat ((G.length : Int) - (0 : Int))) 0 G))) (fun (bh : Bool → Option (Bool × (Nat × Nat))) => (bif decide ((c : Int) ≥ (b.length : Int)) then bh true else (bif aw != ((b.getD c dS_tholeref05_Run).At) then bh true else (m_tholeref01_Same F G ((b.getD c dS_tholeref05_Run).B)).bind (fun ba => bh (!ba))))))) x) t.2)) (fun t a q u aw G y hm => ?_) (0,0) () x5 x6 x7 x8 y3 ct
        obtain ⟨j0,c⟩ := t
        try dsimp only at hm
        refine grd_elim hm (fun h0 hq => ?_)
        clear hm
        replace h0 : j0 = 0 := h0
        subst h0
        have hm := hq
        clear hq
        try dsimp only at hm
        refine cc (X := Unit) (0,c) a #[vI aw,.slice q G.length u] (fun _ => .bool y.1) [o5 q u G] (fun a' => [bag (rfBag ae al af (fun t => (bif t.1 == 0 then none else some .ret)) (fun t a => [.cells ((o 0).x) 4 [.bool false],.osl m n 73 2 (nrows nR73 e b),bag (nins nI73 e b),.cells ((l 2).x) 70 [.slice m b.length n],.cells ((r 0).x) 3 [vI 1],.cells ((s 0).x) 3 [vI (t.2 : Int)]]) y.2 a')]) rfl rfl (fun w => ?_)
        refine GS.rekey (env' := [(4,pA ((o 0).x) 0),(6,pA ((l 2).x) 0),(7,pA ((r 0).x) 0),(8,pA ((s 0).x) 0),(23,vI aw),(24,.slice q G.length u)]) (mem' := [(700230,bag (rfBag ae al af (fun t => (bif t.1 == 0 then none else some .ret)) (fun t a => [.cells ((o 0).x) 4 [.bool false],.osl m n 73 2 (nrows nR73 e b),bag (nins nI73 e b),.cells ((l 2).x) 70 [.slice m b.length n],.cells ((r 0).x) 3 [vI 1],.cells ((s 0).x) 3 [vI (t.2 : Int)]]) (0,c) a)),(700231,o5 q u G),(700232,Ent.all [])]) [4,6,7,8,23,24] [(700230,1),(700231,2),(700232,3)] (by kernel_rfl) (by kernel_rfl) rfl ?_
        refine GS.setMem (mem' := [(7,.cells ((o 0).x) 4 [.bool false]),(11,.osl m n 73 2 (nrows nR73 e b)),(12,bag (nins nI73 e b)),(13,.cells ((l 2).x) 70 [.slice m b.length n]),(16,.cells ((r 0).x) 3 [vI 1]),(17,.cells ((s 0).x) 3 [vI (c : Int)]),(500022,blkD al),(500023,.obj ae (.loop (recRd af))),(700231,o5 q u G),(700232,Ent.all [])]) (fun w hw => unbag_mem (k := 700230) (nk := [500022,500023,7,11,12,13,16,17]) (keys := [7,11,12,13,16,17,500022,500023,700231,700232]) hw rfl rfl rfl rfl (by kernel_rfl)) ?_
        refine GS.rekey (env' := [(4,pA ((o 0).x) 0),(6,pA ((l 2).x) 0),(7,pA ((r 0).x) 0),(8,pA ((s 0).x) 0),(23,vI aw),(24,.slice q G.length u)]) (mem' := [(7,.cells ((o 0).x) 4 [.bool false]),(11,.osl m n 73 2 (nrows nR73 e b)),(12,bag (nins nI73 e b)),(13,.cells ((l 2).x) 70 [.slice m b.length n]),(16,.cells ((r 0).x) 3 [vI 1]),(17,.cells ((s 0).x) 3 [vI (c : Int)]),(18,o5 q u G),(500022,blkD al),(500023,.obj ae (.loop (recRd af)))]) [4,6,7,8,23,24] [(7,7),(11,11),(12,12),(13,13),(16,16),(17,17),(18,700231),(500022,500022),(500023,500023)] (by kernel_rfl) (by kernel_rfl) rfl ?_
        refine GS.seq ?_
        refine GS.rzM (fun _ => [(4,pA ((o 0).x) 0),(6,pA ((l 2).x) 0),(7,pA ((r 0).x) 0),(8,pA ((s 0).x) 0),(9,vI aw),(24,.slice q G.length u)]) [] [4,6,7,8,9,24] [7,11,12,13,16,17,18,500022,500023] (fun _ => by kernel_rfl) ?_
        intro _
        refine GS.rzM (fun _ => [(4,pA ((o 0).x) 0),(6,pA ((l 2).x) 0),(7,pA ((r 0).x) 0),(8,pA ((s 0).x) 0),(9,vI aw),(10,.slice q G.length u)]) [] [4,6,7,8,9,10] [7,11,12,13,16,17,18,500022,500023] (fun _ => by kernel_rfl) ?_
        intro _
        refine GS.beginRound 500023 rfl rfl rfl rfl ?_
        refine GS.conv (mem' := [(7,.cells ((o 0).x) 4 [.bool false]),(11,.osl m n 73 2 (nrows nR73 e b)),(12,bag (nins nI73 e b)),(13,.cells ((l 2).x) 70 [.slice m b.length n]),(16,.cells ((r 0).x) 3 [vI 1]),(17,.cells ((s 0).x) 3 [vI (c : Int)]),(18,o5 q u G),(500022,blkD al),(500023,.obj ae (.loop (recBz af)))]) rfl rfl ?_
        refine GS.block ?_
        refine GS.seq ?_
        refine GS.seq ?_
        refine grd_elim hm (fun a7 hm => ?_)
        refine GS.setMem (mem' := [(7,.cells ((o 0).x) 4 [.bool false]),(11,.osl m n 73 2 (nrows nR73 e b)),(12,bag (nins nI73 (updH e c nilH) (b.set c dS_tholeref05_Run))),(13,.cells ((l 2).x) 70 [.slice m b.length n]),(16,.cells ((r 0).x) 3 [vI 1]),(17,.cells ((s 0).x) 3 [vI (c : Int)]),(18,o5 q u G),(500022,blkD al),(500023,.obj ae (.loop (recBz af))),(500024,o5 (((e c) 0).1) (((e c) 0).2) ((b.getD c dS_tholeref05_Run).B))]) (fun w hw => nest_out (K := 12) (nk := [500024]) (d := dS_tholeref05_Run) [7,11,12,13,16,17,18,500022,500023,500024] nilH dS_tholeref05_Run hw rfl a7 nE73 rfl rfl (by kernel_rfl)) ?_
        refine jn_elim hm (fun bh ce hm => ?_)
        refine GS.cut (ι := Bool) (I := fun (ax : Bool) => bh ax = some y) (E := fun (ax : Bool) => [(4,pA ((o 0).x) 0),(7,pA ((r 0).x) 0),(8,pA ((s 0).x) 0),(10,.slice q G.length u),(47,.bool ax)]) (M := fun (ax : Bool) => [(7,.cells ((o 0).x) 4 [.bool false]),(11,.osl m n 73 2 (nrows nR73 e b)),(12,bag (nins nI73 e b)),(13,.cells ((l 2).x) 70 [.slice m b.length n]),(16,.cells ((r 0).x) 3 [vI 1]),(17,.cells ((s 0).x) 3 [vI (c : Int)]),(18,o5 q u G),(500022,blkD al),(500023,.obj ae (.loop (recBz af)))]) ?_ ?_
        rotate_left
        · intro bq
          refine br_elim hm (fun bl hm => ?_) (fun bl hm => ?_)
          · skip
            refine GS.rgM (fun _ => [(4,pA ((o 0).x) 0),(7,pA ((r 0).x) 0),(8,pA ((s 0).x) 0),(10,.slice q G.length u),(47,.bool true)]) [(0,{ act := .load 17 0 0 [] }),(1,{ act := .load 13 0 0 [] }),(4,{ sp := some (.bool true) })] [4,7,8,10,47] [7,11,12,13,16,17,18,500022,500023,500024] (fun _ => [(s 0).x = (s 0).x,(l 2).x = (l 2).x,((.bool (decide ((c : Int) ≥ (b.length : Int)))) : Value) = .bool true]) (fun _ => by kernel_rfl) (fun _ => ⟨rfl,rfl,bool_eq bl,trivial⟩) ?_
            intro _
            refine GS.setMem (mem' := [(7,.cells ((o 0).x) 4 [.bool false]),(11,.osl m n 73 2 (nrows nR73 e b)),(12,bag (nins nI73 e b)),(13,.cells ((l 2).x) 70 [.slice m b.length n]),(16,.cells ((r 0).x) 3 [vI 1]),(17,.cells ((s 0).x) 3 [vI (c : Int)]),(18,o5 q u G),(500022,blkD al),(500023,.obj ae (.loop (recBz af)))]) (fun w hw => nest_back (K := 12) (nk := [500024]) [7,11,12,13,16,17,18,500022,500023] dS_tholeref05_Run hw rfl (a7) rfl rfl rfl (by kernel_rfl)) ?_
            refine GS.rekey (env' := [(4,pA ((o 0).x) 0),(7,pA ((r 0).x) 0),(8,pA ((s 0).x) 0),(10,.slice q G.length u),(47,.bool true)]) (mem' := [(7,.cells ((o 0).x) 4 [.bool false]),(11,.osl m n 73 2 (nrows nR73 e b)),(12,bag (nins nI73 e b)),(13,.cells ((l 2).x) 70 [.slice m b.length n]),(16,.cells ((r 0).x) 3 [vI 1]),(17,.cells ((s 0).x) 3 [vI (c : Int)]),(18,o5 q u G),(500022,blkD al),(500023,.obj ae (.loop (recBz af)))]) [4,7,8,10,47] [(7,7),(11,11),(12,12),(13,13),(16,16),(17,17),(18,18),(500022,500022),(500023,500023)] (by kernel_rfl) (by kernel_rfl) rfl ?_
            exact bq true hm
          · skip
            refine br_elim hm (fun br hm => ?_) (fun br hm => ?_)
            · skip
              refine GS.rgM (fun _ => [(4,pA ((o 0).x) 0),(7,pA ((r 0).x) 0),(8,pA ((s 0).x) 0),(10,.slice q G.length u),(47,.bool true)]) [(0,{ act := .load 17 0 0 [] }),(1,{ act := .load 13 0 0 [] }),(4,{ sp := some (.bool false) }),(6,{ act := .load 13 0 0 [] }),(7,{ act := .load 17 0 0 [] }),(8,{ act := .idx 11 c }),(10,{ act := .load 11 c 0 [vI ((b.getD c dS_tholeref05_Run).At),.slice (((e c) 0).1) (((b.getD c dS_tholeref05_Run).B).length) (((e c) 0).2)] }),(13,{ sp := some (.bool true) })] [4,7,8,10,47] [7,11,12,13,16,17,18,500022,500023,500024] (fun _ => [(s 0).x = (s 0).x,(l 2).x = (l 2).x,((.bool (decide ((c : Int) ≥ (b.length : Int)))) : Value) = .bool false,(l 2).x = (l 2).x,(s 0).x = (s 0).x,m = m,b.length = (nrows nR73 e b).length,((c : Int) : Int) = (c : Int),c < b.length,blk m = blk m,offs m + c * 2 = offs m + (c * 2 + 0),(nrows nR73 e b)[c]? = some [vI ((b.getD c dS_tholeref05_Run).At),.slice (((e c) 0).1) (((b.getD c dS_tholeref05_Run).B).length) (((e c) 0).2)],((.bool (aw != ((b.getD c dS_tholeref05_Run).At))) : Value) = .bool true]) (fun _ => by kernel_rfl) (fun _ => ⟨rfl,rfl,bool_eq bl,rfl,rfl,rfl,(nrows_len nR73 e b).symm,rfl,a7,rfl,rfl,nrows_at nR73 dS_tholeref05_Run e b a7,bool_eq br,trivial⟩) ?_
              intro _
              refine GS.setMem (mem' := [(7,.cells ((o 0).x) 4 [.bool false]),(11,.osl m n 73 2 (nrows nR73 e b)),(12,bag (nins nI73 e b)),(13,.cells ((l 2).x) 70 [.slice m b.length n]),(16,.cells ((r 0).x) 3 [vI 1]),(17,.cells ((s 0).x) 3 [vI (c : Int)]),(18,o5 q u G),(500022,blkD al),(500023,.obj ae (.loop (recBz af)))]) (fun w hw => nest_back (K := 12) (nk := [500024]) [7,11,12,13,16,17,18,500022,500023] dS_tholeref05_Run hw rfl (a7) rfl rfl rfl (by kernel_rfl)) ?_
              refine GS.rekey (env' := [(4,pA ((o 0).x) 0),(7,pA ((r 0).x) 0),(8,pA ((s 0).x) 0),(10,.slice q G.length u),(47,.bool true)]) (mem' := [(7,.cells ((o 0).x) 4 [.bool false]),(11,.osl m n 73 2 (nrows nR73 e b)),(12,bag (nins nI73 e b)),(13,.cells ((l 2).x) 70 [.slice m b.length n]),(16,.cells ((r 0).x) 3 [vI 1]),(17,.cells ((s 0).x) 3 [vI (c : Int)]),(18,o5 q u G),(500022,blkD al),(500023,.obj ae (.loop (recBz af)))]) [4,7,8,10,47] [(7,7),(11,11),(12,12),(13,13),(16,16),(17,17),(18,18),(500022,500022),(500023,500023)] (by kernel_rfl) (by kernel_rfl) rfl ?_
              exact bq true hm
            · skip
              refine bnd_elim hm (fun ba cv hm => ?_)
              refine GS.rgM (fun _ => [(4,pA ((o 0).x) 0),(7,pA ((r 0).x) 0),(8,pA ((s 0).x) 0),(10,.slice q G.length u),(47,.bool (!ba))]) [(0,{ act := .load 17 0 0 [] }),(1,{ act := .load 13 0 0 [] }),(4,{ sp := some (.bool false) }),(6,{ act := .load 13 0 0 [] }),(7,{ act := .load 17 0 0 [] }),(8,{ act := .idx 11 c }),(10,{ act := .load 11 c 0 [vI ((b.getD c dS_tholeref05_Run).At),.slice (((e c) 0).1) (((b.getD c dS_tholeref05_Run).B).length) (((e c) 0).2)] }),(13,{ sp := some (.bool false) }),(15,{ act := .load 13 0 0 [] }),(16,{ act := .load 17 0 0 [] }),(17,{ act := .idx 11 c }),(19,{ act := .load 11 c 1 [vI ((b.getD c dS_tholeref05_Run).At),.slice (((e c) 0).1) (((b.getD c dS_tholeref05_Run).B).length) (((e c) 0).2)] }),(20,{ act := .call [18,500024] (.bool ba) })] [4,7,8,10,47] [7,11,12,13,16,17,18,500022,500023,500024] (fun _ => [(s 0).x = (s 0).x,(l 2).x = (l 2).x,((.bool (decide ((c : Int) ≥ (b.length : Int)))) : Value) = .bool false,(l 2).x = (l 2).x,(s 0).x = (s 0).x,m = m,b.length = (nrows nR73 e b).length,((c : Int) : Int) = (c : Int),c < b.length,blk m = blk m,offs m + c * 2 = offs m + (c * 2 + 0),(nrows nR73 e b)[c]? = some [vI ((b.getD c dS_tholeref05_Run).At),.slice (((e c) 0).1) (((b.getD c dS_tholeref05_Run).B).length) (((e c) 0).2)],((.bool (aw != ((b.getD c dS_tholeref05_Run).At))) : Value) = .bool false,(l 2).x = (l 2).x,(s 0).x = (s 0).x,m = m,b.length = (nrows nR73 e b).length,((c : Int) : Int) = (c : Int),c < b.length,blk m = blk m,offs m + c * 2 + 1 = offs m + (c * 2 + 1),(nrows nR73 e b)[c]? = some [vI ((b.getD c dS_tholeref05_Run).At),.slice (((e c) 0).1) (((b.getD c dS_tholeref05_Run).B).length) (((e c) 0).2)],CallOK Try.prog 12 #[.slice q G.length u,.slice (((e c) 0).1) (((b.getD c dS_tholeref05_Run).B).length) (((e c) 0).2)] (.bool ba) [some (o5 q u G),some (o5 (((e c) 0).1) (((e c) 0).2) ((b.getD c dS_tholeref05_Run).B))]]) (fun _ => by kernel_rfl) (fun _ => ⟨rfl,rfl,bool_eq bl,rfl,rfl,rfl,(nrows_len nR73 e b).symm,rfl,a7,rfl,rfl,nrows_at nR73 dS_tholeref05_Run e b a7,bool_eq br,rfl,rfl,rfl,(nrows_len nR73 e b).symm,rfl,a7,rfl,(Nat.add_assoc ..),nrows_at nR73 dS_tholeref05_Run e b a7,(by have h1 := w_tholeref01_Same F q u G (((e c) 0).1) (((e c) 0).2) ((b.getD c dS_tholeref05_Run).B) cv; exact h1.ok ⟨(.inl ⟨o5 q u G,.head _,Cov.osl_rd⟩),(.inl ⟨o5 (((e c) 0).1) (((e c) 0).2) ((b.getD c dS_tholeref05_Run).B),(.tail _ (.head _)),Cov.osl_rd⟩),trivial⟩),trivial⟩) ?_
              intro _
              refine GS.setMem (mem' := [(7,.cells ((o 0).x) 4 [.bool false]),(11,.osl m n 73 2 (nrows nR73 e b)),(12,bag (nins nI73 e b)),(13,.cells ((l 2).x) 70 [.slice m b.length n]),(16,.cells ((r 0).x) 3 [vI 1]),(17,.cells ((s 0).x) 3 [vI (c : Int)]),(18,o5 q u G),(500022,blkD al),(500023,.obj ae (.loop (recBz af)))]) (fun w hw => nest_back (K := 12) (nk := [500024]) [7,11,12,13,16,17,18,500022,500023] dS_tholeref05_Run hw rfl (a7) rfl rfl rfl (by kernel_rfl)) ?_
              refine GS.rekey (env' := [(4,pA ((o 0).x) 0),(7,pA ((r 0).x) 0),(8,pA ((s 0).x) 0),(10,.slice q G.length u),(47,.bool (!ba))]) (mem' := [(7,.cells ((o 0).x) 4 [.bool false]),(11,.osl m n 73 2 (nrows nR73 e b)),(12,bag (nins nI73 e b)),(13,.cells ((l 2).x) 70 [.slice m b.length n]),(16,.cells ((r 0).x) 3 [vI 1]),(17,.cells ((s 0).x) 3 [vI (c : Int)]),(18,o5 q u G),(500022,blkD al),(500023,.obj ae (.loop (recBz af)))]) [4,7,8,10,47] [(7,7),(11,11),(12,12),(13,13),(16,16),(17,17),(18,18),(500022,500022),(500023,500023)] (by kernel_rfl) (by kernel_rfl) rfl ?_
              exact bq (!ba) hm
        · rintro ax hm
          replace hm := (ce _).symm.trans hm
          try dsimp only at hm
          refine GS.cond (t := ax) rfl rfl (fun bs => ?_) (fun bs => ?_)
          · replace hm := br_t bs hm
            refine GS.seq ?_
            refine GS.rg (fun _ => []) (fun _ => [(7,.cells ((o 0).x) 4 [.bool false]),(11,.osl m n 73 2 (nrows nR73 e b)),(12,bag (nins nI73 e b)),(13,.cells ((l 2).x) 70 [.slice m b.length n]),(16,.cells ((r 0).x) 3 [vI 1]),(17,.cells ((s 0).x) 3 [vI (c : Int)]),(500022,blkD al),(500023,.obj ae (.loop (recBz af)))]) [(0,{ act := .store 0 0 [],key := some 7 })] [] [7,11,12,13,16,17,500022,500023] (fun _ => [(o 0).x = (o 0).x,oC (.bool false)]) (fun _ => by kernel_rfl) (fun _ => ⟨rfl,rfl,trivial⟩) ?_
            intro _
            have hy := Option.some.inj hm
            subst hy
            refine GS.rekey (env' := []) (mem' := [(7,.cells ((o 0).x) 4 [.bool false]),(11,.osl m n 73 2 (nrows nR73 e b)),(12,bag (nins nI73 e b)),(13,.cells ((l 2).x) 70 [.slice m b.length n]),(16,.cells ((r 0).x) 3 [vI 1]),(17,.cells ((s 0).x) 3 [vI (c : Int)]),(500022,blkD al),(500023,.obj ae (.loop (recBz af)))]) [] [(7,7),(11,11),(12,12),(13,13),(16,16),(17,17),(500022,500022),(500023,500023)] (by kernel_rfl) (by kernel_rfl) rfl ?_
            refine GS.roundRet 500023 rfl rfl rfl rfl rfl (fun w' hs => ⟨(),rfl,TurnsG.bag (es' := [blkD al,.obj ae (.loop (recJ af .ret)),.cells ((o 0).x) 4 [.bool false],.osl m n 73 2 (nrows nR73 e b),bag (nins nI73 e b),.cells ((l 2).x) 70 [.slice m b.length n],.cells ((r 0).x) 3 [vI 1],.cells ((s 0).x) 3 [vI (c : Int)]]) (hs.turnedG (ks := [500022,500023,7,11,12,13,16,17]) rfl rfl) rfl⟩)
          · replace hm := br_f bs hm
            refine GS.skip ?_
            refine GS.seq ?_
            refine GS.seq ?_
            refine GS.rzM (fun _ => [(7,pA ((r 0).x) 0),(8,pA ((s 0).x) 0),(10,.slice q G.length u),(49,vI (G.length : Int)),(50,vI 0)]) [] [7,8,10,49,50] [7,11,12,13,16,17,18,500022,500023] (fun _ => by kernel_rfl) ?_
            intro _
            refine GS.block ?_
            refine GS.loop ?_
            refine GS.know (p := b.length ≤ n) (fun w hw => by first | (have h := (hw.ok 11 _ rfl).1.1; rw [List.length_map] at h; exact h) | (have h := (hw.ok 11 _ rfl).1.1; rw [nrows_len] at h; exact h) | simpa using (hw.ok 11 _ rfl).1.1) (fun db => ?_)
            refine GS.know (p := G.length ≤ u) (fun w hw => by first | (have h := (hw.ok 18 _ rfl).1.1; rw [List.length_map] at h; exact h) | (have h := (hw.ok 18 _ rfl).1.1; rw [nrows_len] at h; exact h) | simpa using (hw.ok 18 _ rfl).1.1) (fun dc => ?_)
            refine grd_elim hm (fun cw hm => ?_)
            refine GS.rekey (env' := [(7,pA ((r 0).x) 0),(8,pA ((s 0).x) 0),(10,.slice q G.length u),(49,vI (G.length : Int)),(50,vI 0)]) (mem' := [(7,.cells ((o 0).x) 4 [.bool false]),(11,.osl m n 73 2 (nrows nR73 e b)),(12,bag (nins nI73 e b)),(13,.cells ((l 2).x) 70 [.slice m b.length n]),(16,.cells ((r 0).x) 3 [vI 1]),(17,.cells ((s 0).x) 3 [vI (c : Int)]),(18,o5 q u G),(500022,blkD al),(500023,.obj ae (.loop (recBz af)))]) [7,8,10,49,50] [(7,7),(11,11),(12,12),(13,13),(16,16),(17,17),(18,18),(500022,500022),(500023,500023)] (by kernel_rfl) (by kernel_rfl) rfl ?_
            refine loopC_elim hm (fun st198 fn199 hst200 hfn201 hm => ?_)
            refine GS.loopInv (ι := Nat × Nat × List UInt8) (I := fun ⟨az,Q,Z⟩ => (((G.length : Int)) - (Q : Int) : Int).toNat = az ∧ loopC st198 fn199 az Q Z = some y) (μ := fun ⟨az,Q,Z⟩ => az) (E := fun ⟨az,Q,Z⟩ => [(7,pA ((r 0).x) 0),(8,pA ((s 0).x) 0),(10,.slice q Z.length u),(49,vI (G.length : Int)),(50,vI (Q : Int))]) (M := fun ⟨az,Q,Z⟩ => [(7,.cells ((o 0).x) 4 [.bool false]),(11,.osl m n 73 2 (nrows nR73 e b)),(12,bag (nins nI73 e b)),(13,.cells ((l 2).x) 70 [.slice m b.length n]),(16,.cells ((r 0).x) 3 [vI 1]),(17,.cells ((s 0).x) 3 [vI (c : Int)]),(18,o5 q u Z),(500022,blkD al),(500023,.obj ae (.loop (recBz af)))]) ?_ ⟨(Int.toNat ((G.length : Int) - (0 : Int))),0,G⟩ ⟨rfl,hm⟩
            rintro ⟨az,Q,Z⟩ ⟨bg,hm⟩ cf
            cases az with
            | zero =>
              replace hm := (hfn201 _ _).symm.trans hm
              try dsimp only at hm
              refine GS.seq ?_
              refine GS.rzM (fun _ => [(7,pA ((r 0).x) 0),(8,pA ((s 0).x) 0),(10,.slice q Z.length u),(49,vI (G.length : Int)),(50,vI (Q : Int)),(51,.bool (decide ((Q : Int) < (G.length : Int))))]) [] [7,8,10,49,50,51] [7,11,12,13,16,17,18,500022,500023] (fun _ => by kernel_rfl) ?_
              intro _
              refine GS.seq ?_
              refine GS.cond (t := decide ((Q : Int) < (G.length : Int))) rfl rfl (fun cx => absb cx (cnt0 bg)) (fun _ => ?_)
              refine GS.exit rfl ?_
              refine GS.seq ?_
              refine grd_elim hm (fun cy hm => ?_)
              refine GS.rg (fun _ => [(7,pA ((r 0).x) 0),(8,pA ((s 0).x) 0)]) (fun _ => [(7,.cells ((o 0).x) 4 [.bool false]),(11,.osl m n 73 2 (nrows nR73 e b)),(12,bag (nins nI73 e b)),(13,.cells ((l 2).x) 70 [.slice m b.length n]),(16,.cells ((r 0).x) 3 [vI 1]),(17,.cells ((s 0).x) 3 [vI ((c + 1 : Nat) : Int)]),(500022,blkD al),(500023,.obj ae (.loop (recBz af)))]) [(0,{ act := .load 17 0 0 [] }),(1,{ sp := some (vI ((c + 1 : Nat) : Int)) }),(2,{ act := .store 0 0 [],key := some 17 })] [7,8] [7,11,12,13,16,17,500022,500023] (fun _ => [(s 0).x = (s 0).x,((vI (IntKind.i64.wrap ((c : Int) + 1))) : Value) = vI ((c + 1 : Nat) : Int),(s 0).x = (s 0).x,oC (vI ((c + 1 : Nat) : Int))]) (fun _ => by kernel_rfl) (fun _ => ⟨rfl,natw2 cy,rfl,rfl,trivial⟩) ?_
              intro _
              refine GS.seq ?_
              refine GS.rgM (fun _ => [(64,.bool false)]) [(0,{ act := .load 16 0 0 [] })] [64] [7,11,12,13,16,17,500022,500023] (fun _ => [(r 0).x = (r 0).x]) (fun _ => by kernel_rfl) (fun _ => ⟨rfl,trivial⟩) ?_
              intro _
              refine GS.cond (t := false) rfl rfl (fun hf => by cases hf) (fun _ => ?_)
              refine GS.skip ?_
              refine GS.inBlock ?_
              have hy := Option.some.inj hm
              subst hy
              refine GS.rekey (env' := []) (mem' := [(7,.cells ((o 0).x) 4 [.bool false]),(11,.osl m n 73 2 (nrows nR73 e b)),(12,bag (nins nI73 e b)),(13,.cells ((l 2).x) 70 [.slice m b.length n]),(16,.cells ((r 0).x) 3 [vI 1]),(17,.cells ((s 0).x) 3 [vI ((c + 1 : Nat) : Int)]),(500022,blkD al),(500023,.obj ae (.loop (recBz af)))]) [] [(7,7),(11,11),(12,12),(13,13),(16,16),(17,17),(500022,500022),(500023,500023)] (by kernel_rfl) (by kernel_rfl) rfl ?_
              refine GS.roundEnd 500023 rfl rfl rfl rfl rfl (fun w' hs => ⟨(),rfl,TurnsG.bag (es' := [blkD al,.obj ae (.loop (recRd af)),.cells ((o 0).x) 4 [.bool false],.osl m n 73 2 (nrows nR73 e b),bag (nins nI73 e b),.cells ((l 2).x) 70 [.slice m b.length n],.cells ((r 0).x) 3 [vI 1],.cells ((s 0).x) 3 [vI ((c + 1 : Nat) : Int)]]) (hs.turnedG (ks := [500022,500023,7,11,12,13,16,17]) rfl rfl) rfl⟩)
            | succ az =>
              replace hm := (hst200 _ _ _).symm.trans hm
              try dsimp only at hm
              refine GS.seq ?_
              refine GS.rzM (fun _ => [(7,pA ((r 0).x) 0),(8,pA ((s 0).x) 0),(10,.slice q Z.length u),(49,vI (G.length : Int)),(50,vI (Q : Int)),(51,.bool (decide ((Q : Int) < (G.length : Int))))]) [] [7,8,10,49,50,51] [7,11,12,13,16,17,18,500022,500023] (fun _ => by kernel_rfl) ?_
              intro _
              refine GS.seq ?_
              refine GS.cond (t := decide ((Q : Int) < (G.length : Int))) rfl rfl (fun _ => ?_) (fun cz => absb (cnt1 bg) cz)
              refine GS.skip ?_
              refine GS.seq ?_
              refine GS.block ?_
              refine GS.seq ?_
              refine GS.rzM (fun _ => [(7,pA ((r 0).x) 0),(8,pA ((s 0).x) 0),(10,.slice q Z.length u),(11,vI (Q : Int)),(49,vI (G.length : Int)),(50,vI (Q : Int))]) [] [7,8,10,11,49,50] [7,11,12,13,16,17,18,500022,500023] (fun _ => by kernel_rfl) ?_
              intro _
              refine grd_elim hm (fun b0 hm => ?_)
              refine GS.rg (fun _ => [(7,pA ((r 0).x) 0),(8,pA ((s 0).x) 0),(10,.slice q Z.length u),(49,vI (G.length : Int)),(50,vI (Q : Int))]) (fun _ => [(7,.cells ((o 0).x) 4 [.bool false]),(11,.osl m n 73 2 (nrows nR73 e b)),(12,bag (nins nI73 e b)),(13,.cells ((l 2).x) 70 [.slice m b.length n]),(16,.cells ((r 0).x) 3 [vI 1]),(17,.cells ((s 0).x) 3 [vI (c : Int)]),(18,.osl q u 5 1 ((List.map rB Z).set Q [.int .u8 5])),(500022,blkD al),(500023,.obj ae (.loop (recBz af)))]) [(2,{ act := .idx 18 Q }),(3,{ act := .store Q 0 [.int .u8 (((Z.getD Q 0).toNat : Nat) : Int)],key := some 18 })] [7,8,10,49,50] [7,11,12,13,16,17,18,500022,500023] (fun _ => [q = q,Z.length = (List.map rB Z).length,((Q : Int) : Int) = (Q : Int),Q < Z.length,blk q = blk q,offs q + Q * 1 = offs q + (Q * 1 + 0),(List.map rB Z)[Q]? = some [.int .u8 (((Z.getD Q 0).toNat : Nat) : Int)],oC (.int .u8 5)]) (fun _ => by kernel_rfl) (fun _ => ⟨rfl,mlen rB Z,rfl,b0,rfl,rfl,map_at rB 0 b0,rfl,trivial⟩) ?_
              intro _
              refine GS.conv (mem' := [(7,.cells ((o 0).x) 4 [.bool false]),(11,.osl m n 73 2 (nrows nR73 e b)),(12,bag (nins nI73 e b)),(13,.cells ((l 2).x) 70 [.slice m b.length n]),(16,.cells ((r 0).x) 3 [vI 1]),(17,.cells ((s 0).x) 3 [vI (c : Int)]),(18,o5 q u (Z.set Q (5 : UInt8))),(500022,blkD al),(500023,.obj ae (.loop (recBz af)))]) rfl (congrArg (fun rr : List (List Value) => ([(7,.cells ((o 0).x) 4 [.bool false]),(11,.osl m n 73 2 (nrows nR73 e b)),(12,bag (nins nI73 e b)),(13,.cells ((l 2).x) 70 [.slice m b.length n]),(16,.cells ((r 0).x) 3 [vI 1]),(17,.cells ((s 0).x) 3 [vI (c : Int)]),(18,.osl q u 5 1 rr),(500022,blkD al),(500023,.obj ae (.loop (recBz af)))] : List (Nat × Ent))) (show (List.map rB Z).set Q [.int .u8 5] = List.map rB (Z.set Q (5 : UInt8)) from mset rB Z Q (5 : UInt8))) ?_
              refine GS.inBlock ?_
              refine GS.conv (env' := [(7,pA ((r 0).x) 0),(8,pA ((s 0).x) 0),(10,.slice q ((Z.set Q (5 : UInt8)).length) u),(49,vI (G.length : Int)),(50,vI (Q : Int))]) (congrArg (fun vhole : Value => [(7,pA ((r 0).x) 0),(8,pA ((s 0).x) 0),(10,vhole),(49,vI (G.length : Int)),(50,vI (Q : Int))]) (show ((.slice q Z.length u) : Value) = .slice q ((Z.set Q (5 : UInt8)).length) u from (by simp []))) rfl ?_
              refine GS.rgM (fun _ => [(7,pA ((r 0).x) 0),(8,pA ((s 0).x) 0),(10,.slice q ((Z.set Q (5 : UInt8)).length) u),(49,vI (G.length : Int)),(50,vI ((Q + 1 : Nat) : Int))]) [(0,{ sp := some (vI ((Q + 1 : Nat) : Int)) })] [7,8,10,49,50] [7,11,12,13,16,17,18,500022,500023] (fun _ => [((vI (IntKind.i64.wrap ((Q : Int) + 1))) : Value) = vI ((Q + 1 : Nat) : Int)]) (fun _ => by kernel_rfl) (fun _ => ⟨natwB (cnt1 bg) cw,trivial⟩) ?_
              intro _
              refine GS.inLoop ?_
              refine GS.rekey (env' := [(7,pA ((r 0).x) 0),(8,pA ((s 0).x) 0),(10,.slice q ((Z.set Q (5 : UInt8)).length) u),(49,vI (G.length : Int)),(50,vI ((Q + 1 : Nat) : Int))]) (mem' := [(7,.cells ((o 0).x) 4 [.bool false]),(11,.osl m n 73 2 (nrows nR73 e b)),(12,bag (nins nI73 e b)),(13,.cells ((l 2).x) 70 [.slice m b.length n]),(16,.cells ((r 0).x) 3 [vI 1]),(17,.cells ((s 0).x) 3 [vI (c : Int)]),(18,o5 q u (Z.set Q (5 : UInt8))),(500022,blkD al),(500023,.obj ae (.loop (recBz af)))]) [7,8,10,49,50] [(7,7),(11,11),(12,12),(13,13),(16,16),(17,17),(18,18),(500022,500022),(500023,500023)] (by kernel_rfl) (by kernel_rfl) rfl ?_
              exact cf ⟨az,Q + 1,(Z.set Q (5 : UInt8))⟩ ⟨cntN bg,hm⟩ (Nat.lt_succ_self _)
      intro a8 a
      refine GS.rekey (env' := [(4,pA ((o 0).x) 0),(5,.func (.func 26) #[] #[pA x5 0]),(6,pA ((l 2).x) 0),(7,pA ((r 0).x) 0),(8,pA ((s 0).x) 0),(22,.func (.func 26) #[] #[pA x5 0])]) (mem' := [(7,.cells ((o 0).x) 4 [.bool false]),(8,.osl x6 x7 59 3 (nrows nR59 x8 y3)),(9,bag (nins nI59 x8 y3)),(10,.cells x5 61 [.slice x6 y3.length x7]),(11,.osl m n 73 2 (nrows nR73 e b)),(12,bag (nins nI73 e b)),(13,.cells ((l 2).x) 70 [.slice m b.length n]),(16,.cells ((r 0).x) 3 [vI 1]),(17,.cells ((s 0).x) 3 [vI (be.2 : Int)]),(500002,blkD an),(500022,blkD a8)]) [4,5,6,7,8,22] [(7,7),(8,8),(9,9),(10,10),(11,11),(12,12),(13,13),(16,16),(17,17),(500002,500002),(500022,500022)] (by kernel_rfl) (by kernel_rfl) rfl ?_
      refine br_elim hm (fun bt hm => ?_) (fun bt hm => ?_)
      · skip
        refine GS.jmp0 bt ?_
        refine GS.inBlock ?_
        refine GS.seq ?_
        refine GS.rg (fun _ => [(4,pA ((o 0).x) 0),(5,.func (.func 26) #[] #[pA x5 0]),(6,pA ((l 2).x) 0),(7,pA ((r 0).x) 0),(72,.bool ((be.2 : Int) != (b.length : Int)))]) (fun _ => [(7,.cells ((o 0).x) 4 [.bool false]),(8,.osl x6 x7 59 3 (nrows nR59 x8 y3)),(9,bag (nins nI59 x8 y3)),(10,.cells x5 61 [.slice x6 y3.length x7]),(11,.osl m n 73 2 (nrows nR73 e b)),(12,bag (nins nI73 e b)),(13,.cells ((l 2).x) 70 [.slice m b.length n]),(16,.cells ((r 0).x) 3 [vI 1]),(500002,blkD an),(500022,blkD a8)]) [(0,{ act := .load 16 0 0 [] }),(3,{ act := .load 17 0 0 [] }),(4,{ act := .load 13 0 0 [] })] [4,5,6,7,72] [7,8,9,10,11,12,13,16,500002,500022] (fun _ => [(r 0).x = (r 0).x,(s 0).x = (s 0).x,(l 2).x = (l 2).x]) (fun _ => by kernel_rfl) (fun _ => ⟨rfl,rfl,rfl,trivial⟩) ?_
        intro _
        refine GS.cond (t := (be.2 : Int) != (b.length : Int)) rfl rfl (fun bu => ?_) (fun bu => ?_)
        · replace hm := br_t bu hm
          refine GS.seq ?_
          refine GS.rg (fun _ => [(4,pA ((o 0).x) 0)]) (fun _ => [(7,.cells ((o 0).x) 4 [.bool false]),(500002,blkD an),(500022,blkD a8)]) [(0,{ act := .store 0 0 [],key := some 7 })] [4] [7,500002,500022] (fun _ => [(o 0).x = (o 0).x,oC (.bool false)]) (fun _ => by kernel_rfl) (fun _ => ⟨rfl,rfl,trivial⟩) ?_
          intro _
          have hy := Option.some.inj hm
          subst hy
          refine GS.retD (mem2 := [(7,.cells ((o 0).x) 4 [.bool false])]) (fn := Try.f21) [(500022,a8),(500002,an)] [7] [7] [.bool false] [(o 0).x = (o 0).x] rfl rfl Try.func21 rfl rfl rfl (by kernel_rfl) (by kernel_rfl) ⟨rfl,trivial⟩ (fun w' hs => ?_)
          exact ⟨(),rfl,hs.turnedG (ks := []) rfl rfl⟩
        · replace hm := br_f bu hm
          refine GS.skip ?_
          refine GS.inBlock ?_
          refine GS.seq ?_
          refine GS.seq ?_
          refine GS.rg (fun _ => [(4,pA ((o 0).x) 0),(5,.func (.func 26) #[] #[pA x5 0]),(6,pA ((l 2).x) 0),(73,vI 1)]) (fun _ => [(7,.cells ((o 0).x) 4 [.bool false]),(8,.osl x6 x7 59 3 (nrows nR59 x8 y3)),(9,bag (nins nI59 x8 y3)),(10,.cells x5 61 [.slice x6 y3.length x7]),(11,.osl m n 73 2 (nrows nR73 e b)),(12,bag (nins nI73 e b)),(13,.cells ((l 2).x) 70 [.slice m b.length n]),(500002,blkD an),(500022,blkD a8)]) [(0,{ act := .load 16 0 0 [] })] [4,5,6,73] [7,8,9,10,11,12,13,500002,500022] (fun _ => [(r 0).x = (r 0).x]) (fun _ => by kernel_rfl) (fun _ => ⟨rfl,trivial⟩) ?_
          intro _
          refine GS.rg (fun ap => [(4,pA ((o 0).x) 0),(5,.func (.func 26) #[] #[pA x5 0]),(6,pA ((l 2).x) 0),(7,pA ((ap 0).x) 0)]) (fun ap => [(7,.cells ((o 0).x) 4 [.bool false]),(8,.osl x6 x7 59 3 (nrows nR59 x8 y3)),(9,bag (nins nI59 x8 y3)),(10,.cells x5 61 [.slice x6 y3.length x7]),(11,.osl m n 73 2 (nrows nR73 e b)),(12,bag (nins nI73 e b)),(13,.cells ((l 2).x) 70 [.slice m b.length n]),(18,.cells ((ap 0).x) 3 [vI 1]),(500002,blkD an),(500022,blkD a8)]) [(0,{ act := .new .var,key := some 18 }),(1,{ act := .store 0 0 [],key := some 18 })] [4,5,6,7] [7,8,9,10,11,12,13,18,500002,500022] (fun ap => [(ap 0).x = (ap 0).x,oC (vI 1)]) (fun ap => by kernel_rfl) (fun ap => ⟨rfl,rfl,trivial⟩) ?_
          intro ap
          refine GS.rg (fun _ => [(4,pA ((o 0).x) 0),(5,.func (.func 26) #[] #[pA x5 0]),(6,pA ((l 2).x) 0),(7,pA ((ap 0).x) 0)]) (fun _ => [(7,.cells ((o 0).x) 4 [.bool false]),(8,.osl x6 x7 59 3 (nrows nR59 x8 y3)),(9,bag (nins nI59 x8 y3)),(10,.cells x5 61 [.slice x6 y3.length x7]),(11,.osl m n 73 2 (nrows nR73 e b)),(12,bag (nins nI73 e b)),(13,.cells ((l 2).x) 70 [.slice m b.length n]),(18,.cells ((ap 0).x) 3 [vI 2]),(500002,blkD an),(500022,blkD a8)]) [(0,{ act := .load 18 0 0 [] }),(2,{ act := .store 0 0 [],key := some 18 })] [4,5,6,7] [7,8,9,10,11,12,13,18,500002,500022] (fun _ => [(ap 0).x = (ap 0).x,(ap 0).x = (ap 0).x,oC (vI 2)]) (fun _ => by kernel_rfl) (fun _ => ⟨rfl,rfl,rfl,trivial⟩) ?_
          intro _
          refine GS.inLoop ?_
          refine GS.seq ?_
          refine GS.seq ?_
          refine GS.rgM (fun _ => [(4,pA ((o 0).x) 0),(5,.func (.func 26) #[] #[pA x5 0]),(6,pA ((l 2).x) 0),(7,pA ((ap 0).x) 0),(19,.bool false)]) [(0,{ act := .load 18 0 0 [] })] [4,5,6,7,19] [7,8,9,10,11,12,13,18,500002,500022] (fun _ => [(ap 0).x = (ap 0).x]) (fun _ => by kernel_rfl) (fun _ => ⟨rfl,trivial⟩) ?_
          intro _
          refine GS.cond (t := false) rfl rfl (fun hf => by cases hf) (fun _ => ?_)
          refine GS.exit rfl ?_
          refine GS.seq ?_
          refine GS.rg (fun _ => [(4,pA ((o 0).x) 0)]) (fun _ => [(7,.cells ((o 0).x) 4 [.bool true]),(500002,blkD an),(500022,blkD a8)]) [(0,{ act := .store 0 0 [],key := some 7 })] [4] [7,500002,500022] (fun _ => [(o 0).x = (o 0).x,oC (.bool true)]) (fun _ => by kernel_rfl) (fun _ => ⟨rfl,rfl,trivial⟩) ?_
          intro _
          have hy := Option.some.inj hm
          subst hy
          refine GS.retD (mem2 := [(7,.cells ((o 0).x) 4 [.bool true])]) (fn := Try.f21) [(500022,a8),(500002,an)] [7] [7] [.bool true] [(o 0).x = (o 0).x] rfl rfl Try.func21 rfl rfl rfl (by kernel_rfl) (by kernel_rfl) ⟨rfl,trivial⟩ (fun w' hs => ?_)
          exact ⟨(),rfl,hs.turnedG (ks := []) rfl rfl⟩
      · skip
        refine GS.jmpS bt ?_
        refine GS.jmpL ?_
        have hy := Option.some.inj hm
        subst hy
        refine GS.retD (mem2 := [(7,.cells ((o 0).x) 4 [.bool false]),(8,.osl x6 x7 59 3 (nrows nR59 x8 y3)),(9,bag (nins nI59 x8 y3)),(10,.cells x5 61 [.slice x6 y3.length x7]),(11,.osl m n 73 2 (nrows nR73 e b)),(12,bag (nins nI73 e b)),(13,.cells ((l 2).x) 70 [.slice m b.length n]),(16,.cells ((r 0).x) 3 [vI 1]),(17,.cells ((s 0).x) 3 [vI (be.2 : Int)])]) (fn := Try.f21) [(500022,a8),(500002,an)] [7] [7,8,9,10,11,12,13,16,17] [.bool false] [(o 0).x = (o 0).x] rfl rfl Try.func21 rfl rfl rfl (by kernel_rfl) (by kernel_rfl) ⟨rfl,trivial⟩ (fun w' hs => ?_)
        exact ⟨(),rfl,hs.turnedG (ks := []) rfl rfl⟩

end Go.Proofs.Ytmdfkklldbfocaa
