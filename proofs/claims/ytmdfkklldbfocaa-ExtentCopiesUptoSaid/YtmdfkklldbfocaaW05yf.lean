/-
  CHAPTER 05y: the functions do what their models say (6).
-/
import Derived.Test.YtmdfkklldbfocaaM05y
import Derived.Test.YtmdfkklldbfocaaW05ya
import Derived.Test.YtmdfkklldbfocaaW05yc
import Derived.Test.YtmdfkklldbfocaaW05yd
import Derived.Test.YtmdfkklldbfocaaW05ye
set_option linter.unusedVariables false
set_option linter.unusedSimpArgs false
set_option maxRecDepth 100000
set_option maxHeartbeats 8000000
namespace Go.Proofs.Ytmdfkklldbfocaa
open Go Go.RowKit Sx

theorem w_tholelaw05_act (F : Nat) (C : Nat) (a : Hds) (b : List S_extent_run) (r : Int) (v : Nat) (c : Option Addr) (d : Nat) (l : List UInt8) (e : Option Addr) (j : Nat) (n : List Bool) (u : Int) (O : Int) (U : Int) (o : Option Addr) (s : Nat) (m : List UInt8) (an : l.length ≤ d) {y : Bool × List S_extent_run × Int × List UInt8 × List Bool} (hm : m_tholelaw05_act F b r l n u O U m = some y) : CallG Try.prog 20 #[pA C 0,pA v 0,.agg #[vI u,vI O,vI U,.slice o m.length s]] (X := Hds × Option Addr × Nat × Option Addr × Nat) (fun ⟨x0,x1,x2,x3,x4⟩ => .bool y.1) [bag (sgs 59 nX59 a none b),Ent.mine (nins nJ59 a b),.cells C 56 [.bool true,.pointer (sgp a none b),vI r],o5 c d l,o4 e j n,.cells v 48 [.slice c l.length d,.slice e n.length j]] [r5 o m] (fun ⟨x0,x1,x2,x3,x4⟩ => [bag (sgs 59 nX59 x0 none y.2.1),Ent.mine (nins nJ59 x0 y.2.1),.cells C 56 [.bool true,.pointer (sgp x0 none y.2.1),vI y.2.2.1],o5 x1 x2 y.2.2.2.1,o4 x3 x4 y.2.2.2.2,.cells v 48 [.slice x1 y.2.2.2.1.length x2,.slice x3 y.2.2.2.2.length x4]]) := by
  intro w hg
  rw [m_tholelaw05_act] at hm
  refine GS.start (S := mayT [bag (sgs 59 nX59 a none b),Ent.mine (nins nJ59 a b),.cells C 56 [.bool true,.pointer (sgp a none b),vI r],o5 c d l,o4 e j n,.cells v 48 [.slice c l.length d,.slice e n.length j]] [r5 o m]) (mem := [(1,bag (sgs 59 nX59 a none b)),(2,Ent.mine (nins nJ59 a b)),(3,.cells C 56 [.bool true,.pointer (sgp a none b),vI r]),(4,o5 c d l),(5,o4 e j n),(6,.cells v 48 [.slice c l.length d,.slice e n.length j]),(7,r5 o m)]) Try.func20 rfl Try.ntmps20 (Nat.le_of_ble_eq_true rfl) (hg.start rfl) ?_
  refine GS.conv (env' := [(0,pA C 0),(1,pA v 0),(2,.agg #[vI u,vI O,vI U,.slice o m.length s])]) rfl rfl ?_
  refine GS.seq ?_
  refine GS.rz (fun D => [(0,pA C 0),(1,pA v 0),(5,pA ((D 0).x) 0)]) (fun D => [(1,bag (sgs 59 nX59 a none b)),(2,Ent.mine (nins nJ59 a b)),(3,.cells C 56 [.bool true,.pointer (sgp a none b),vI r]),(4,o5 c d l),(5,o4 e j n),(6,.cells v 48 [.slice c l.length d,.slice e n.length j]),(7,r5 o m),(8,.cells ((D 0).x) 37 [vI u,vI O,vI U,.slice o m.length s])]) [(0,{ act := .new .var,key := some 8 })] [0,1,5] [1,2,3,4,5,6,7,8] (fun D => by kernel_rfl) ?_
  intro D
  refine GS.seq ?_
  refine GS.seq ?_
  refine GS.rgM (fun _ => [(0,pA C 0),(1,pA v 0),(5,pA ((D 0).x) 0),(19,vI u)]) [(1,{ act := .load 8 0 0 [] })] [0,1,5,19] [1,2,3,4,5,6,7,8] (fun _ => [(D 0).x = (D 0).x]) (fun _ => by kernel_rfl) (fun _ => ⟨rfl,trivial⟩) ?_
  intro _
  refine GS.block ?_
  refine GS.seq ?_
  refine GS.rzM (fun _ => [(0,pA C 0),(1,pA v 0),(5,pA ((D 0).x) 0),(19,vI u),(20,.bool (u == 0))]) [] [0,1,5,19,20] [1,2,3,4,5,6,7,8] (fun _ => by kernel_rfl) ?_
  intro _
  refine GS.cond (t := u == 0) rfl rfl (fun h4 => ?_) (fun h4 => ?_)
  · replace hm := br_t h4 hm
    refine GS.seq ?_
    refine bnd_elim hm (fun y6 e7 hm => ?_)
    refine GS.open_ ?_
    refine GR.rM (i := 0) 2 (env' := fun _ => [(0,pA C 0),(1,pA v 0),(5,pA ((D 0).x) 0),(24,.slice o m.length s)]) (by kernel_rfl) (RunsTo.mk [(1,{ act := .load 8 0 0 [] })] [0,1,5,24] [1,2,3,4,5,6,7,8] (fun _ => [(D 0).x = (D 0).x]) (fun _ => by kernel_rfl) (fun _ => ⟨rfl,trivial⟩)) ?_
    intro _
    refine GR.callG (X := Option Addr × Nat) (i := 2) (g := 27) (ro := [r5 o m]) (mem' := fun ⟨x8,x9⟩ => [(1,bag (sgs 59 nX59 a none b)),(2,Ent.mine (nins nJ59 a b)),(3,.cells C 56 [.bool true,.pointer (sgp a none b),vI r]),(4,o5 c d l),(5,o4 e j n),(6,.cells v 48 [.slice c l.length d,.slice e n.length j]),(7,r5 o m),(8,.cells ((D 0).x) 37 [vI u,vI O,vI U,.slice o m.length s]),(9,o5 x8 x9 y6)]) (env' := fun ⟨x8,x9⟩ => [(0,pA C 0),(1,pA v 0),(5,pA ((D 0).x) 0),(25,.tuple #[.slice x8 y6.length x9,.slice (cutOb x8 1 x9 1) (((y6.drop 1).take ((m.length + 1) - 1)).length) (x9 - 1)])]) [] [9] [0,1,5,25] [1,2,3,4,5,6,7,8,9] false (by kernel_rfl) (by kernel_rfl) (by kernel_rfl) (by kernel_rfl) (by kernel_rfl) (fun _ => rfl) (fun _ _ => rfl) ⟨(.inl ⟨7,_,rfl,rfl,Cov.refl _,fun h => by cases h⟩),trivial⟩ (by rintro ⟨x8,x9⟩; kernel_rfl) (by rintro ⟨x8,x9⟩; kernel_rfl) (w_tholeref01_Lend F o s m e7) ?_
    rintro ⟨x8,x9⟩
    refine GR.know (p := y6.length ≤ x9) (fun w hw => by have h := (hw.ok 9 _ rfl).1.1; rw [List.length_map] at h; exact h) (fun ax => ?_)
    refine grd_elim hm (fun a4 hm => ?_)
    refine grd_elim hm (fun a5 hm => ?_)
    refine GR.rM (i := 3) 5 (env' := fun _ => [(0,pA C 0),(1,pA v 0),(5,pA ((D 0).x) 0),(7,.slice x8 y6.length x9),(8,.slice (cutOb x8 1 x9 1) (((y6.drop 1).take ((m.length + 1) - 1)).length) (x9 - 1))]) (by kernel_rfl) (RunsTo.mk [] [0,1,5,7,8] [1,2,3,4,5,6,7,8,9] (fun _ => []) (fun _ => by kernel_rfl) (fun _ => trivial)) ?_
    intro _
    refine GR.dn (by kernel_rfl) ?_
    refine GS.seq ?_
    refine bnd_elim hm (fun G bd hm => ?_)
    refine GS.open_ ?_
    refine GR.rM (i := 0) 4 (env' := fun _ => [(1,pA v 0),(5,pA ((D 0).x) 0),(7,.slice x8 y6.length x9),(8,.slice (cutOb x8 1 x9 1) (((y6.drop 1).take ((m.length + 1) - 1)).length) (x9 - 1)),(28,pA C 0),(30,vI O),(31,.slice (cutOb x8 1 x9 1) (((y6.drop 1).take ((m.length + 1) - 1)).length) (x9 - 1))]) (by kernel_rfl) (RunsTo.mk [(2,{ act := .load 8 0 0 [] })] [1,5,7,8,28,30,31] [1,2,3,4,5,6,7,8,9] (fun _ => [(D 0).x = (D 0).x]) (fun _ => by kernel_rfl) (fun _ => ⟨rfl,trivial⟩)) ?_
    intro _
    refine GR.callB (X := Hds) (i := 4) (g := 9) (ro := []) (rb := [r5 (cutOb x8 1 x9 1) ((y6.drop 1).take ((m.length + 1) - 1))]) (mem' := fun (P : Hds) => [(3,.cells C 56 [.bool true,.pointer (sgp P none G.2.1),vI G.2.2]),(4,o5 c d l),(5,o4 e j n),(6,.cells v 48 [.slice c l.length d,.slice e n.length j]),(7,r5 o m),(8,.cells ((D 0).x) 37 [vI u,vI O,vI U,.slice o m.length s]),(9,o5 x8 x9 y6),(11,bag (sgs 59 nX59 P none G.2.1)),(12,Ent.mine (nins nJ59 P G.2.1))]) (env' := fun (P : Hds) => [(1,pA v 0),(5,pA ((D 0).x) 0),(7,.slice x8 y6.length x9),(8,.slice (cutOb x8 1 x9 1) (((y6.drop 1).take ((m.length + 1) - 1)).length) (x9 - 1)),(32,vI G.1)]) [1,3,2] [11,12,3] [1,5,7,8,32] [3,4,5,6,7,8,9,11,12] false (by kernel_rfl) (by kernel_rfl) (by kernel_rfl) (by kernel_rfl) (by kernel_rfl) (fun _ => rfl) (fun _ _ => rfl) trivial ⟨(.inl ⟨9,_,rfl,rfl,(Cov.trans Cov.osl_rd (cov_cut a5 (Nat.le_trans a4 ax))),fun h => by cases h⟩),trivial⟩ (by rintro P; kernel_rfl) (by rintro P; kernel_rfl) (CallB.grp (A := fun (P : Hds) => [bag (sgs 59 nX59 P none G.2.1)]) (B := fun (P : Hds) => [.cells C 56 [.bool true,.pointer (sgp P none G.2.1),vI G.2.2]]) (R' := fun (P : Hds) => nins nJ59 P G.2.1) (fun _ => rfl) (w___extent_Map__Write F C a b r O (cutOb x8 1 x9 1) (x9 - 1) ((y6.drop 1).take ((m.length + 1) - 1)) bd)) ?_
    rintro P
    refine GR.rM (i := 5) 1 (env' := fun _ => [(1,pA v 0),(5,pA ((D 0).x) 0),(7,.slice x8 y6.length x9),(8,.slice (cutOb x8 1 x9 1) (((y6.drop 1).take ((m.length + 1) - 1)).length) (x9 - 1)),(9,vI G.1)]) (by kernel_rfl) (RunsTo.mk [] [1,5,7,8,9] [3,4,5,6,7,8,9,11,12] (fun _ => []) (fun _ => by kernel_rfl) (fun _ => trivial)) ?_
    intro _
    refine GR.dn (by kernel_rfl) ?_
    refine GS.seq ?_
    refine bnd_elim hm (fun ac be hm => ?_)
    refine GS.rgM (fun _ => [(1,pA v 0),(5,pA ((D 0).x) 0),(8,.slice (cutOb x8 1 x9 1) (((y6.drop 1).take ((m.length + 1) - 1)).length) (x9 - 1)),(9,vI G.1),(10,.bool ac)]) [(2,{ act := .load 8 0 0 [] }),(3,{ act := .call [7,9] (.bool ac) })] [1,5,8,9,10] [3,4,5,6,7,8,9,11,12] (fun _ => [(D 0).x = (D 0).x,CallOK Try.prog 28 #[.slice x8 y6.length x9,.slice o m.length s] (.bool ac) [some (r5 o m),some (o5 x8 x9 y6)]]) (fun _ => by kernel_rfl) (fun _ => ⟨rfl,(by have h1 := w_tholeref01_Kept F x8 x9 y6 o s m ax be; exact h1.ok ⟨(.inl ⟨o5 x8 x9 y6,(.tail _ (.head _)),Cov.osl_rd⟩),(.inl ⟨r5 o m,.head _,Cov.refl _⟩),trivial⟩),trivial⟩) ?_
    intro _
    refine GS.setMem (mem' := [(3,.cells C 56 [.bool true,.pointer (sgp P none G.2.1),vI G.2.2]),(4,o5 c d l),(5,o4 e j n),(6,.cells v 48 [.slice c l.length d,.slice e n.length j]),(7,r5 o m),(8,.cells ((D 0).x) 37 [vI u,vI O,vI U,.slice o m.length s]),(10,.osl (cutOb x8 1 x9 1) (x9 - 1) 5 1 (((List.map rB y6).drop 1).take ((m.length + 1) - 1))),(11,bag (sgs 59 nX59 P none G.2.1)),(12,Ent.mine (nins nJ59 P G.2.1))]) (fun w hw => own_cov (K := 9) (K2 := 10) [3,4,5,6,7,8,10,11,12] hw rfl rfl (own_cut a5 (Nat.le_trans a4 ax)) (by kernel_rfl)) ?_
    refine GS.conv (mem' := [(3,.cells C 56 [.bool true,.pointer (sgp P none G.2.1),vI G.2.2]),(4,o5 c d l),(5,o4 e j n),(6,.cells v 48 [.slice c l.length d,.slice e n.length j]),(7,r5 o m),(8,.cells ((D 0).x) 37 [vI u,vI O,vI U,.slice o m.length s]),(10,o5 (cutOb x8 1 x9 1) (x9 - 1) ((y6.drop 1).take ((m.length + 1) - 1))),(11,bag (sgs 59 nX59 P none G.2.1)),(12,Ent.mine (nins nJ59 P G.2.1))]) rfl (congrArg (fun rr : List (List Value) => ([(3,.cells C 56 [.bool true,.pointer (sgp P none G.2.1),vI G.2.2]),(4,o5 c d l),(5,o4 e j n),(6,.cells v 48 [.slice c l.length d,.slice e n.length j]),(7,r5 o m),(8,.cells ((D 0).x) 37 [vI u,vI O,vI U,.slice o m.length s]),(10,.osl (cutOb x8 1 x9 1) (x9 - 1) 5 1 rr),(11,bag (sgs 59 nX59 P none G.2.1)),(12,Ent.mine (nins nJ59 P G.2.1))] : List (Nat × Ent))) (show ((List.map rB y6).drop 1).take ((m.length + 1) - 1) = List.map rB ((y6.drop 1).take ((m.length + 1) - 1)) from (by simp only [List.drop_zero,Nat.sub_zero,List.map_take,List.map_drop]))) ?_
    refine GS.seq ?_
    refine GS.seq ?_
    refine GS.rzM (fun _ => [(1,pA v 0),(5,pA ((D 0).x) 0),(8,.slice (cutOb x8 1 x9 1) (((y6.drop 1).take ((m.length + 1) - 1)).length) (x9 - 1)),(9,vI G.1),(10,.bool ac),(38,vI ((((y6.drop 1).take ((m.length + 1) - 1)).length : Nat) : Int)),(39,vI 0)]) [] [1,5,8,9,10,38,39] [3,4,5,6,7,8,10,11,12] (fun _ => by kernel_rfl) ?_
    intro _
    refine GS.block ?_
    refine GS.loop ?_
    refine GS.know (p := ((y6.drop 1).take ((m.length + 1) - 1)).length ≤ x9 - 1) (fun w hw => by first | (have h := (hw.ok 10 _ rfl).1.1; rw [List.length_map] at h; exact h) | (have h := (hw.ok 10 _ rfl).1.1; rw [nrows_len] at h; exact h) | simpa using (hw.ok 10 _ rfl).1.1) (fun bq => ?_)
    refine grd_elim hm (fun bf hm => ?_)
    refine GS.rekey (env' := [(1,pA v 0),(5,pA ((D 0).x) 0),(8,.slice (cutOb x8 1 x9 1) (((y6.drop 1).take ((m.length + 1) - 1)).length) (x9 - 1)),(9,vI G.1),(10,.bool ac),(38,vI ((((y6.drop 1).take ((m.length + 1) - 1)).length : Nat) : Int)),(39,vI 0)]) (mem' := [(3,.cells C 56 [.bool true,.pointer (sgp P none G.2.1),vI G.2.2]),(4,o5 c d l),(5,o4 e j n),(6,.cells v 48 [.slice c l.length d,.slice e n.length j]),(7,r5 o m),(8,.cells ((D 0).x) 37 [vI u,vI O,vI U,.slice o m.length s]),(10,o5 (cutOb x8 1 x9 1) (x9 - 1) ((y6.drop 1).take ((m.length + 1) - 1))),(11,bag (sgs 59 nX59 P none G.2.1)),(12,Ent.mine (nins nJ59 P G.2.1))]) [1,5,8,9,10,38,39] [(3,3),(4,4),(5,5),(6,6),(7,7),(8,8),(10,10),(11,11),(12,12)] (by kernel_rfl) (by kernel_rfl) rfl ?_
    refine loopC_elim hm (fun st50 fn51 hst52 hfn53 hm => ?_)
    refine GS.loopInv (ι := Nat × Nat × List UInt8) (I := fun ⟨ae,z,L⟩ => ((((((y6.drop 1).take ((m.length + 1) - 1)).length : Nat) : Int)) - (z : Int) : Int).toNat = ae ∧ loopC st50 fn51 ae z L = some y) (μ := fun ⟨ae,z,L⟩ => ae) (E := fun ⟨ae,z,L⟩ => [(1,pA v 0),(5,pA ((D 0).x) 0),(8,.slice (cutOb x8 1 x9 1) L.length (x9 - 1)),(9,vI G.1),(10,.bool ac),(38,vI ((((y6.drop 1).take ((m.length + 1) - 1)).length : Nat) : Int)),(39,vI (z : Int))]) (M := fun ⟨ae,z,L⟩ => [(3,.cells C 56 [.bool true,.pointer (sgp P none G.2.1),vI G.2.2]),(4,o5 c d l),(5,o4 e j n),(6,.cells v 48 [.slice c l.length d,.slice e n.length j]),(7,r5 o m),(8,.cells ((D 0).x) 37 [vI u,vI O,vI U,.slice o m.length s]),(10,o5 (cutOb x8 1 x9 1) (x9 - 1) L),(11,bag (sgs 59 nX59 P none G.2.1)),(12,Ent.mine (nins nJ59 P G.2.1))]) ?_ ⟨(Int.toNat (((((y6.drop 1).take ((m.length + 1) - 1)).length : Nat) : Int) - (0 : Int))),0,((y6.drop 1).take ((m.length + 1) - 1))⟩ ⟨rfl,hm⟩
    rintro ⟨ae,z,L⟩ ⟨ao,hm⟩ a6
    cases ae with
    | zero =>
      replace hm := (hfn53 _ _).symm.trans hm
      try dsimp only at hm
      refine GS.seq ?_
      refine GS.rzM (fun _ => [(1,pA v 0),(5,pA ((D 0).x) 0),(8,.slice (cutOb x8 1 x9 1) L.length (x9 - 1)),(9,vI G.1),(10,.bool ac),(38,vI ((((y6.drop 1).take ((m.length + 1) - 1)).length : Nat) : Int)),(39,vI (z : Int)),(40,.bool (decide ((z : Int) < ((((y6.drop 1).take ((m.length + 1) - 1)).length : Nat) : Int))))]) [] [1,5,8,9,10,38,39,40] [3,4,5,6,7,8,10,11,12] (fun _ => by kernel_rfl) ?_
      intro _
      refine GS.seq ?_
      refine GS.cond (t := decide ((z : Int) < ((((y6.drop 1).take ((m.length + 1) - 1)).length : Nat) : Int))) rfl rfl (fun bg => absb bg (cnt0 ao)) (fun _ => ?_)
      refine GS.exit rfl ?_
      refine GS.seq ?_
      refine br_elim hm (fun ay hm => ?_) (fun ay hm => ?_)
      · skip
        refine bnd_elim hm (fun ah bh hm => ?_)
        refine GS.open_ ?_
        refine GR.ru (i := 0) 8 (env' := fun _ => [(47,.bool true),(48,vI G.1),(49,pA v 0),(51,vI O),(53,.slice o m.length s)]) (mem' := fun _ => [(3,.cells C 56 [.bool true,.pointer (sgp P none G.2.1),vI G.2.2]),(4,o5 c d l),(5,o4 e j n),(6,.cells v 48 [.slice c l.length d,.slice e n.length j]),(7,r5 o m),(11,bag (sgs 59 nX59 P none G.2.1)),(12,Ent.mine (nins nJ59 P G.2.1))]) (by kernel_rfl) (RunsTo.mk [(1,{ sp := some (.bool true) }),(5,{ act := .load 8 0 0 [] }),(7,{ act := .load 8 0 0 [] })] [47,48,49,51,53] [3,4,5,6,7,11,12] (fun _ => [((.bool ac) : Value) = .bool true,(D 0).x = (D 0).x,(D 0).x = (D 0).x]) (fun _ => by kernel_rfl) (fun _ => ⟨bool_eq ay,rfl,rfl,trivial⟩)) ?_
        intro _
        refine GR.callG (X := Option Addr × Nat × Option Addr × Nat) (i := 8) (g := 29) (ro := [r5 o m]) (mem' := fun ⟨ai,aj,ak,al⟩ => [(3,.cells C 56 [.bool true,.pointer (sgp P none G.2.1),vI G.2.2]),(6,.cells v 48 [.slice ai ah.2.1.length aj,.slice ak ah.2.2.length al]),(7,r5 o m),(11,bag (sgs 59 nX59 P none G.2.1)),(12,Ent.mine (nins nJ59 P G.2.1)),(13,o5 ai aj ah.2.1),(14,o4 ak al ah.2.2)]) (env' := fun ⟨ai,aj,ak,al⟩ => [(47,.bool true),(48,vI G.1),(54,vI ah.1)]) [4,5,6] [13,14,6] [47,48,54] [3,6,7,11,12,13,14] false (by kernel_rfl) (by kernel_rfl) (by kernel_rfl) (by kernel_rfl) (by kernel_rfl) (fun _ => rfl) (fun _ _ => rfl) ⟨(.inl ⟨7,_,rfl,rfl,Cov.refl _,fun h => by cases h⟩),trivial⟩ (by rintro ⟨ai,aj,ak,al⟩; kernel_rfl) (by rintro ⟨ai,aj,ak,al⟩; kernel_rfl) (w___tholeref05_Map__Write F v c d l e j n O o s m bh) ?_
        rintro ⟨ai,aj,ak,al⟩
        refine GR.ru (i := 9) 3 (env' := fun _ => [(6,.bool (G.1 == ah.1))]) (mem' := fun _ => [(3,.cells C 56 [.bool true,.pointer (sgp P none G.2.1),vI G.2.2]),(6,.cells v 48 [.slice ai ah.2.1.length aj,.slice ak ah.2.2.length al]),(11,bag (sgs 59 nX59 P none G.2.1)),(12,Ent.mine (nins nJ59 P G.2.1)),(13,o5 ai aj ah.2.1),(14,o4 ak al ah.2.2)]) (by kernel_rfl) (RunsTo.mk [] [6] [3,6,11,12,13,14] (fun _ => []) (fun _ => by kernel_rfl) (fun _ => trivial)) ?_
        intro _
        refine GR.dn (by kernel_rfl) ?_
        have hy := Option.some.inj hm
        subst hy
        refine GS.ret (fn := Try.f20) [0] [.bool (G.1 == ah.1)] [] rfl Try.func20 (by kernel_rfl) trivial (fun w' hs => ?_)
        exact ⟨⟨P,ai,aj,ak,al⟩,rfl,hs.turnedG (ks := [11,12,3,13,14,6]) rfl rfl⟩
      · skip
        refine GS.rg (fun _ => [(6,.bool false)]) (fun _ => [(3,.cells C 56 [.bool true,.pointer (sgp P none G.2.1),vI G.2.2]),(4,o5 c d l),(5,o4 e j n),(6,.cells v 48 [.slice c l.length d,.slice e n.length j]),(11,bag (sgs 59 nX59 P none G.2.1)),(12,Ent.mine (nins nJ59 P G.2.1))]) [(1,{ sp := some (.bool false) })] [6] [3,4,5,6,11,12] (fun _ => [((.bool ac) : Value) = .bool false]) (fun _ => by kernel_rfl) (fun _ => ⟨bool_eq ay,trivial⟩) ?_
        intro _
        have hy := Option.some.inj hm
        subst hy
        refine GS.ret (fn := Try.f20) [0] [.bool false] [] rfl Try.func20 (by kernel_rfl) trivial (fun w' hs => ?_)
        exact ⟨⟨P,c,d,e,j⟩,rfl,hs.turnedG (ks := [11,12,3,4,5,6]) rfl rfl⟩
    | succ ae =>
      replace hm := (hst52 _ _ _).symm.trans hm
      try dsimp only at hm
      refine GS.seq ?_
      refine GS.rzM (fun _ => [(1,pA v 0),(5,pA ((D 0).x) 0),(8,.slice (cutOb x8 1 x9 1) L.length (x9 - 1)),(9,vI G.1),(10,.bool ac),(38,vI ((((y6.drop 1).take ((m.length + 1) - 1)).length : Nat) : Int)),(39,vI (z : Int)),(40,.bool (decide ((z : Int) < ((((y6.drop 1).take ((m.length + 1) - 1)).length : Nat) : Int))))]) [] [1,5,8,9,10,38,39,40] [3,4,5,6,7,8,10,11,12] (fun _ => by kernel_rfl) ?_
      intro _
      refine GS.seq ?_
      refine GS.cond (t := decide ((z : Int) < ((((y6.drop 1).take ((m.length + 1) - 1)).length : Nat) : Int))) rfl rfl (fun _ => ?_) (fun bi => absb (cnt1 ao) bi)
      refine GS.skip ?_
      refine GS.seq ?_
      refine GS.block ?_
      refine GS.seq ?_
      refine GS.rzM (fun _ => [(1,pA v 0),(5,pA ((D 0).x) 0),(8,.slice (cutOb x8 1 x9 1) L.length (x9 - 1)),(9,vI G.1),(10,.bool ac),(11,vI (z : Int)),(38,vI ((((y6.drop 1).take ((m.length + 1) - 1)).length : Nat) : Int)),(39,vI (z : Int))]) [] [1,5,8,9,10,11,38,39] [3,4,5,6,7,8,10,11,12] (fun _ => by kernel_rfl) ?_
      intro _
      refine grd_elim hm (fun a7 hm => ?_)
      refine GS.rg (fun _ => [(1,pA v 0),(5,pA ((D 0).x) 0),(8,.slice (cutOb x8 1 x9 1) L.length (x9 - 1)),(9,vI G.1),(10,.bool ac),(38,vI ((((y6.drop 1).take ((m.length + 1) - 1)).length : Nat) : Int)),(39,vI (z : Int))]) (fun _ => [(3,.cells C 56 [.bool true,.pointer (sgp P none G.2.1),vI G.2.2]),(4,o5 c d l),(5,o4 e j n),(6,.cells v 48 [.slice c l.length d,.slice e n.length j]),(7,r5 o m),(8,.cells ((D 0).x) 37 [vI u,vI O,vI U,.slice o m.length s]),(10,.osl (cutOb x8 1 x9 1) (x9 - 1) 5 1 ((List.map rB L).set z [.int .u8 7])),(11,bag (sgs 59 nX59 P none G.2.1)),(12,Ent.mine (nins nJ59 P G.2.1))]) [(2,{ act := .idx 10 z }),(3,{ act := .store z 0 [.int .u8 (((L.getD z 0).toNat : Nat) : Int)],key := some 10 })] [1,5,8,9,10,38,39] [3,4,5,6,7,8,10,11,12] (fun _ => [cutOb x8 1 x9 1 = cutOb x8 1 x9 1,L.length = (List.map rB L).length,((z : Int) : Int) = (z : Int),z < L.length,blk (cutOb x8 1 x9 1) = blk (cutOb x8 1 x9 1),offs (cutOb x8 1 x9 1) + z * 1 = offs (cutOb x8 1 x9 1) + (z * 1 + 0),(List.map rB L)[z]? = some [.int .u8 (((L.getD z 0).toNat : Nat) : Int)],oC (.int .u8 7)]) (fun _ => by kernel_rfl) (fun _ => ⟨rfl,mlen rB L,rfl,a7,rfl,rfl,map_at rB 0 a7,rfl,trivial⟩) ?_
      intro _
      refine GS.conv (mem' := [(3,.cells C 56 [.bool true,.pointer (sgp P none G.2.1),vI G.2.2]),(4,o5 c d l),(5,o4 e j n),(6,.cells v 48 [.slice c l.length d,.slice e n.length j]),(7,r5 o m),(8,.cells ((D 0).x) 37 [vI u,vI O,vI U,.slice o m.length s]),(10,o5 (cutOb x8 1 x9 1) (x9 - 1) (L.set z (7 : UInt8))),(11,bag (sgs 59 nX59 P none G.2.1)),(12,Ent.mine (nins nJ59 P G.2.1))]) rfl (congrArg (fun rr : List (List Value) => ([(3,.cells C 56 [.bool true,.pointer (sgp P none G.2.1),vI G.2.2]),(4,o5 c d l),(5,o4 e j n),(6,.cells v 48 [.slice c l.length d,.slice e n.length j]),(7,r5 o m),(8,.cells ((D 0).x) 37 [vI u,vI O,vI U,.slice o m.length s]),(10,.osl (cutOb x8 1 x9 1) (x9 - 1) 5 1 rr),(11,bag (sgs 59 nX59 P none G.2.1)),(12,Ent.mine (nins nJ59 P G.2.1))] : List (Nat × Ent))) (show (List.map rB L).set z [.int .u8 7] = List.map rB (L.set z (7 : UInt8)) from mset rB L z (7 : UInt8))) ?_
      refine GS.inBlock ?_
      refine GS.conv (env' := [(1,pA v 0),(5,pA ((D 0).x) 0),(8,.slice (cutOb x8 1 x9 1) ((L.set z (7 : UInt8)).length) (x9 - 1)),(9,vI G.1),(10,.bool ac),(38,vI ((((y6.drop 1).take ((m.length + 1) - 1)).length : Nat) : Int)),(39,vI (z : Int))]) (congrArg (fun vhole : Value => [(1,pA v 0),(5,pA ((D 0).x) 0),(8,vhole),(9,vI G.1),(10,.bool ac),(38,vI ((((y6.drop 1).take ((m.length + 1) - 1)).length : Nat) : Int)),(39,vI (z : Int))]) (show ((.slice (cutOb x8 1 x9 1) L.length (x9 - 1)) : Value) = .slice (cutOb x8 1 x9 1) ((L.set z (7 : UInt8)).length) (x9 - 1) from (by simp []))) rfl ?_
      refine GS.rgM (fun _ => [(1,pA v 0),(5,pA ((D 0).x) 0),(8,.slice (cutOb x8 1 x9 1) ((L.set z (7 : UInt8)).length) (x9 - 1)),(9,vI G.1),(10,.bool ac),(38,vI ((((y6.drop 1).take ((m.length + 1) - 1)).length : Nat) : Int)),(39,vI ((z + 1 : Nat) : Int))]) [(0,{ sp := some (vI ((z + 1 : Nat) : Int)) })] [1,5,8,9,10,38,39] [3,4,5,6,7,8,10,11,12] (fun _ => [((vI (IntKind.i64.wrap ((z : Int) + 1))) : Value) = vI ((z + 1 : Nat) : Int)]) (fun _ => by kernel_rfl) (fun _ => ⟨natwB (cnt1 ao) bf,trivial⟩) ?_
      intro _
      refine GS.inLoop ?_
      refine GS.rekey (env' := [(1,pA v 0),(5,pA ((D 0).x) 0),(8,.slice (cutOb x8 1 x9 1) ((L.set z (7 : UInt8)).length) (x9 - 1)),(9,vI G.1),(10,.bool ac),(38,vI ((((y6.drop 1).take ((m.length + 1) - 1)).length : Nat) : Int)),(39,vI ((z + 1 : Nat) : Int))]) (mem' := [(3,.cells C 56 [.bool true,.pointer (sgp P none G.2.1),vI G.2.2]),(4,o5 c d l),(5,o4 e j n),(6,.cells v 48 [.slice c l.length d,.slice e n.length j]),(7,r5 o m),(8,.cells ((D 0).x) 37 [vI u,vI O,vI U,.slice o m.length s]),(10,o5 (cutOb x8 1 x9 1) (x9 - 1) (L.set z (7 : UInt8))),(11,bag (sgs 59 nX59 P none G.2.1)),(12,Ent.mine (nins nJ59 P G.2.1))]) [1,5,8,9,10,38,39] [(3,3),(4,4),(5,5),(6,6),(7,7),(8,8),(10,10),(11,11),(12,12)] (by kernel_rfl) (by kernel_rfl) rfl ?_
      exact a6 ⟨ae,z + 1,(L.set z (7 : UInt8))⟩ ⟨cntN ao,hm⟩ (Nat.lt_succ_self _)
  · replace hm := br_f h4 hm
    refine GS.seq ?_
    refine GS.rzM (fun _ => [(0,pA C 0),(1,pA v 0),(5,pA ((D 0).x) 0),(19,vI u),(57,.bool (u == 1))]) [] [0,1,5,19,57] [1,2,3,4,5,6,7,8] (fun _ => by kernel_rfl) ?_
    intro _
    refine GS.cond (t := u == 1) rfl rfl (fun az => ?_) (fun az => ?_)
    · replace hm := br_t az hm
      refine GS.seq ?_
      refine GS.setMem (mem' := [(4,o5 c d l),(5,o4 e j n),(6,.cells v 48 [.slice c l.length d,.slice e n.length j]),(7,r5 o m),(8,.cells ((D 0).x) 37 [vI u,vI O,vI U,.slice o m.length s]),(9,bag [bag (sgs 59 nX59 a none b),.cells C 56 [.bool true,.pointer (sgp a none b),vI r],Ent.mine (nins nJ59 a b)])]) (fun w hw => bag_mem (K := 9) (es := [bag (sgs 59 nX59 a none b),.cells C 56 [.bool true,.pointer (sgp a none b),vI r],Ent.mine (nins nJ59 a b)]) (ks := [1,3,2]) (keys := [4,5,6,7,8,9]) hw rfl rfl rfl (by kernel_rfl)) ?_
      refine GS.setMem (mem' := [(7,r5 o m),(8,.cells ((D 0).x) 37 [vI u,vI O,vI U,.slice o m.length s]),(9,bag [bag (sgs 59 nX59 a none b),.cells C 56 [.bool true,.pointer (sgp a none b),vI r],Ent.mine (nins nJ59 a b)]),(10,bag [o5 c d l,o4 e j n,.cells v 48 [.slice c l.length d,.slice e n.length j]])]) (fun w hw => bag_mem (K := 10) (es := [o5 c d l,o4 e j n,.cells v 48 [.slice c l.length d,.slice e n.length j]]) (ks := [4,5,6]) (keys := [7,8,9,10]) hw rfl rfl rfl (by kernel_rfl)) ?_
      refine bnd_elim hm (fun W bj hm => ?_)
      refine bnd_elim hm (fun Z bk hm => ?_)
      refine GS.region (env' := fun H => [(6,.bool (W.1 == Z.1))]) (mem' := fun H => [(9,bag [bag (sgs 59 nX59 ((H 5).hs) none W.2.1),Ent.mine (nins nJ59 ((H 5).hs) W.2.1),.cells C 56 [.bool true,.pointer (sgp ((H 5).hs) none W.2.1),vI W.2.2]]),(10,bag [o5 (((H 11).xs.getD 0 (none,0)).1) (((H 11).xs.getD 1 (none,0)).2) Z.2.1,o4 (((H 11).xs.getD 2 (none,0)).1) (((H 11).xs.getD 3 (none,0)).2) Z.2.2,.cells v 48 [.slice (((H 11).xs.getD 0 (none,0)).1) Z.2.1.length (((H 11).xs.getD 1 (none,0)).2),.slice (((H 11).xs.getD 2 (none,0)).1) Z.2.2.length (((H 11).xs.getD 3 (none,0)).2)]])]) (RunsTo.mkd [(2,{ act := .load 8 0 0 [] }),(4,{ act := .load 8 0 0 [] }),(5,{ act := .callo [] (fun f => vI W.1) (fun f => bag [bag (sgs 59 nX59 f.hs none W.2.1),Ent.mine (nins nJ59 f.hs W.2.1),.cells C 56 [.bool true,.pointer (sgp f.hs none W.2.1),vI W.2.2]]),key := some 9 }),(8,{ act := .load 8 0 0 [] }),(10,{ act := .load 8 0 0 [] }),(11,{ act := .callo [] (fun f => vI Z.1) (fun f => bag [o5 (f.xs.getD 0 (none,0)).1 (f.xs.getD 1 (none,0)).2 Z.2.1,o4 (f.xs.getD 2 (none,0)).1 (f.xs.getD 3 (none,0)).2 Z.2.2,.cells v 48 [.slice (f.xs.getD 0 (none,0)).1 Z.2.1.length (f.xs.getD 1 (none,0)).2,.slice (f.xs.getD 2 (none,0)).1 Z.2.2.length (f.xs.getD 3 (none,0)).2]]),key := some 10 })] [6] [9,10] (fun H => [(D 0).x = (D 0).x,(D 0).x = (D 0).x,CallO Try.prog 13 #[pA C 0,vI O,vI U] (fun f => vI W.1) (fun f => bag [bag (sgs 59 nX59 f.hs none W.2.1),Ent.mine (nins nJ59 f.hs W.2.1),.cells C 56 [.bool true,.pointer (sgp f.hs none W.2.1),vI W.2.2]]) (bag [bag (sgs 59 nX59 a none b),.cells C 56 [.bool true,.pointer (sgp a none b),vI r],Ent.mine (nins nJ59 a b)]) [],(D 0).x = (D 0).x,(D 0).x = (D 0).x,CallO Try.prog 30 #[pA v 0,vI O,vI U] (fun f => vI Z.1) (fun f => bag [o5 (f.xs.getD 0 (none,0)).1 (f.xs.getD 1 (none,0)).2 Z.2.1,o4 (f.xs.getD 2 (none,0)).1 (f.xs.getD 3 (none,0)).2 Z.2.2,.cells v 48 [.slice (f.xs.getD 0 (none,0)).1 Z.2.1.length (f.xs.getD 1 (none,0)).2,.slice (f.xs.getD 2 (none,0)).1 Z.2.2.length (f.xs.getD 3 (none,0)).2]]) (bag [o5 c d l,o4 e j n,.cells v 48 [.slice c l.length d,.slice e n.length j]]) []]) (by kernel_rfl) (by kernel_rfl) (fun H => by kernel_rfl) (fun H => ⟨rfl,rfl,(by have h1 := CallB.toG (CallB.grp (A := fun (aq : Hds) => [bag (sgs 59 nX59 aq none W.2.1)]) (B := fun (aq : Hds) => [.cells C 56 [.bool true,.pointer (sgp aq none W.2.1),vI W.2.2]]) (R' := fun (aq : Hds) => nins nJ59 aq W.2.1) (fun _ => rfl) (CallG.toB (w___extent_Map__Zero F C a b r O U bj))); exact CallG.toOB (efs := fun f => [bag (sgs 59 nX59 f.hs none W.2.1),Ent.mine (nins nJ59 f.hs W.2.1),.cells C 56 [.bool true,.pointer (sgp f.hs none W.2.1),vI W.2.2]]) h1 trivial (fun x => ⟨0,none,0,[(none,0)],x⟩) (fun _ => rfl) (fun _ => rfl) (fun _ => rfl)),rfl,rfl,(by have h1 := w___tholeref05_Map__Zero F v c d l e j n O U bk; exact CallG.toOB (efs := fun f => [o5 (f.xs.getD 0 (none,0)).1 (f.xs.getD 1 (none,0)).2 Z.2.1,o4 (f.xs.getD 2 (none,0)).1 (f.xs.getD 3 (none,0)).2 Z.2.2,.cells v 48 [.slice (f.xs.getD 0 (none,0)).1 Z.2.1.length (f.xs.getD 1 (none,0)).2,.slice (f.xs.getD 2 (none,0)).1 Z.2.2.length (f.xs.getD 3 (none,0)).2]]) h1 trivial (fun x => ⟨0,none,0,[(x.1,0),(none,x.2.1),(x.2.2.1,0),(none,x.2.2.2)],fun _ _ => (none,0)⟩) (fun _ => rfl) (fun _ => rfl) (fun _ => rfl)),trivial⟩)) ?_
      intro H
      refine GS.setMem (mem' := [(3,.cells C 56 [.bool true,.pointer (sgp ((H 5).hs) none W.2.1),vI W.2.2]),(10,bag [o5 (((H 11).xs.getD 0 (none,0)).1) (((H 11).xs.getD 1 (none,0)).2) Z.2.1,o4 (((H 11).xs.getD 2 (none,0)).1) (((H 11).xs.getD 3 (none,0)).2) Z.2.2,.cells v 48 [.slice (((H 11).xs.getD 0 (none,0)).1) Z.2.1.length (((H 11).xs.getD 1 (none,0)).2),.slice (((H 11).xs.getD 2 (none,0)).1) Z.2.2.length (((H 11).xs.getD 3 (none,0)).2)]]),(11,bag (sgs 59 nX59 ((H 5).hs) none W.2.1)),(12,Ent.mine (nins nJ59 ((H 5).hs) W.2.1))]) (fun w hw => unbag_mem (k := 9) (nk := [11,12,3]) (keys := [3,10,11,12]) hw rfl rfl rfl rfl (by kernel_rfl)) ?_
      refine GS.setMem (mem' := [(3,.cells C 56 [.bool true,.pointer (sgp ((H 5).hs) none W.2.1),vI W.2.2]),(6,.cells v 48 [.slice (((H 11).xs.getD 0 (none,0)).1) Z.2.1.length (((H 11).xs.getD 1 (none,0)).2),.slice (((H 11).xs.getD 2 (none,0)).1) Z.2.2.length (((H 11).xs.getD 3 (none,0)).2)]),(11,bag (sgs 59 nX59 ((H 5).hs) none W.2.1)),(12,Ent.mine (nins nJ59 ((H 5).hs) W.2.1)),(13,o5 (((H 11).xs.getD 0 (none,0)).1) (((H 11).xs.getD 1 (none,0)).2) Z.2.1),(14,o4 (((H 11).xs.getD 2 (none,0)).1) (((H 11).xs.getD 3 (none,0)).2) Z.2.2)]) (fun w hw => unbag_mem (k := 10) (nk := [13,14,6]) (keys := [3,6,11,12,13,14]) hw rfl rfl rfl rfl (by kernel_rfl)) ?_
      have hy := Option.some.inj hm
      subst hy
      refine GS.ret (fn := Try.f20) [0] [.bool (W.1 == Z.1)] [] rfl Try.func20 (by kernel_rfl) trivial (fun w' hs => ?_)
      exact ⟨⟨(H 5).hs,((H 11).xs.getD 0 (none,0)).1,((H 11).xs.getD 1 (none,0)).2,((H 11).xs.getD 2 (none,0)).1,((H 11).xs.getD 3 (none,0)).2⟩,rfl,hs.turnedG (ks := [11,12,3,13,14,6]) rfl rfl⟩
    · replace hm := br_f az hm
      refine GS.seq ?_
      refine GS.rzM (fun _ => [(0,pA C 0),(1,pA v 0),(5,pA ((D 0).x) 0),(19,vI u),(72,.bool (u == 2))]) [] [0,1,5,19,72] [1,2,3,4,5,6,7,8] (fun _ => by kernel_rfl) ?_
      intro _
      refine GS.cond (t := u == 2) rfl rfl (fun a0 => ?_) (fun a0 => ?_)
      · replace hm := br_t a0 hm
        refine GS.seq ?_
        refine GS.setMem (mem' := [(4,o5 c d l),(5,o4 e j n),(6,.cells v 48 [.slice c l.length d,.slice e n.length j]),(7,r5 o m),(8,.cells ((D 0).x) 37 [vI u,vI O,vI U,.slice o m.length s]),(9,bag [bag (sgs 59 nX59 a none b),.cells C 56 [.bool true,.pointer (sgp a none b),vI r],Ent.mine (nins nJ59 a b)])]) (fun w hw => bag_mem (K := 9) (es := [bag (sgs 59 nX59 a none b),.cells C 56 [.bool true,.pointer (sgp a none b),vI r],Ent.mine (nins nJ59 a b)]) (ks := [1,3,2]) (keys := [4,5,6,7,8,9]) hw rfl rfl rfl (by kernel_rfl)) ?_
        refine GS.setMem (mem' := [(7,r5 o m),(8,.cells ((D 0).x) 37 [vI u,vI O,vI U,.slice o m.length s]),(9,bag [bag (sgs 59 nX59 a none b),.cells C 56 [.bool true,.pointer (sgp a none b),vI r],Ent.mine (nins nJ59 a b)]),(10,bag [o5 c d l,o4 e j n,.cells v 48 [.slice c l.length d,.slice e n.length j]])]) (fun w hw => bag_mem (K := 10) (es := [o5 c d l,o4 e j n,.cells v 48 [.slice c l.length d,.slice e n.length j]]) (ks := [4,5,6]) (keys := [7,8,9,10]) hw rfl rfl rfl (by kernel_rfl)) ?_
        refine bnd_elim hm (fun Y bl hm => ?_)
        refine bnd_elim hm (fun aa bm hm => ?_)
        refine GS.region (env' := fun J => [(6,.bool (Y.1 == aa.1))]) (mem' := fun J => [(9,bag [bag (sgs 59 nX59 ((J 3).hs) none Y.2.1),Ent.mine (nins nJ59 ((J 3).hs) Y.2.1),.cells C 56 [.bool true,.pointer (sgp ((J 3).hs) none Y.2.1),vI Y.2.2]]),(10,bag [o5 (((J 7).xs.getD 0 (none,0)).1) (((J 7).xs.getD 1 (none,0)).2) aa.2.1,o4 (((J 7).xs.getD 2 (none,0)).1) (((J 7).xs.getD 3 (none,0)).2) aa.2.2,.cells v 48 [.slice (((J 7).xs.getD 0 (none,0)).1) aa.2.1.length (((J 7).xs.getD 1 (none,0)).2),.slice (((J 7).xs.getD 2 (none,0)).1) aa.2.2.length (((J 7).xs.getD 3 (none,0)).2)]])]) (RunsTo.mkd [(2,{ act := .load 8 0 0 [] }),(3,{ act := .callo [] (fun f => vI Y.1) (fun f => bag [bag (sgs 59 nX59 f.hs none Y.2.1),Ent.mine (nins nJ59 f.hs Y.2.1),.cells C 56 [.bool true,.pointer (sgp f.hs none Y.2.1),vI Y.2.2]]),key := some 9 }),(6,{ act := .load 8 0 0 [] }),(7,{ act := .callo [] (fun f => vI aa.1) (fun f => bag [o5 (f.xs.getD 0 (none,0)).1 (f.xs.getD 1 (none,0)).2 aa.2.1,o4 (f.xs.getD 2 (none,0)).1 (f.xs.getD 3 (none,0)).2 aa.2.2,.cells v 48 [.slice (f.xs.getD 0 (none,0)).1 aa.2.1.length (f.xs.getD 1 (none,0)).2,.slice (f.xs.getD 2 (none,0)).1 aa.2.2.length (f.xs.getD 3 (none,0)).2]]),key := some 10 })] [6] [9,10] (fun J => [(D 0).x = (D 0).x,CallO Try.prog 14 #[pA C 0,vI O] (fun f => vI Y.1) (fun f => bag [bag (sgs 59 nX59 f.hs none Y.2.1),Ent.mine (nins nJ59 f.hs Y.2.1),.cells C 56 [.bool true,.pointer (sgp f.hs none Y.2.1),vI Y.2.2]]) (bag [bag (sgs 59 nX59 a none b),.cells C 56 [.bool true,.pointer (sgp a none b),vI r],Ent.mine (nins nJ59 a b)]) [],(D 0).x = (D 0).x,CallO Try.prog 31 #[pA v 0,vI O] (fun f => vI aa.1) (fun f => bag [o5 (f.xs.getD 0 (none,0)).1 (f.xs.getD 1 (none,0)).2 aa.2.1,o4 (f.xs.getD 2 (none,0)).1 (f.xs.getD 3 (none,0)).2 aa.2.2,.cells v 48 [.slice (f.xs.getD 0 (none,0)).1 aa.2.1.length (f.xs.getD 1 (none,0)).2,.slice (f.xs.getD 2 (none,0)).1 aa.2.2.length (f.xs.getD 3 (none,0)).2]]) (bag [o5 c d l,o4 e j n,.cells v 48 [.slice c l.length d,.slice e n.length j]]) []]) (by kernel_rfl) (by kernel_rfl) (fun J => by kernel_rfl) (fun J => ⟨rfl,(by have h1 := CallB.toG (CallB.grp (A := fun (ar : Hds) => [bag (sgs 59 nX59 ar none Y.2.1)]) (B := fun (ar : Hds) => [.cells C 56 [.bool true,.pointer (sgp ar none Y.2.1),vI Y.2.2]]) (R' := fun (ar : Hds) => nins nJ59 ar Y.2.1) (fun _ => rfl) (CallG.toB (w___extent_Map__Truncate F C a b r O bl))); exact CallG.toOB (efs := fun f => [bag (sgs 59 nX59 f.hs none Y.2.1),Ent.mine (nins nJ59 f.hs Y.2.1),.cells C 56 [.bool true,.pointer (sgp f.hs none Y.2.1),vI Y.2.2]]) h1 trivial (fun x => ⟨0,none,0,[(none,0)],x⟩) (fun _ => rfl) (fun _ => rfl) (fun _ => rfl)),rfl,(by have h1 := w___tholeref05_Map__Truncate F v c d l e j n O bm; exact CallG.toOB (efs := fun f => [o5 (f.xs.getD 0 (none,0)).1 (f.xs.getD 1 (none,0)).2 aa.2.1,o4 (f.xs.getD 2 (none,0)).1 (f.xs.getD 3 (none,0)).2 aa.2.2,.cells v 48 [.slice (f.xs.getD 0 (none,0)).1 aa.2.1.length (f.xs.getD 1 (none,0)).2,.slice (f.xs.getD 2 (none,0)).1 aa.2.2.length (f.xs.getD 3 (none,0)).2]]) h1 trivial (fun x => ⟨0,none,0,[(x.1,0),(none,x.2.1),(x.2.2.1,0),(none,x.2.2.2)],fun _ _ => (none,0)⟩) (fun _ => rfl) (fun _ => rfl) (fun _ => rfl)),trivial⟩)) ?_
        intro J
        refine GS.setMem (mem' := [(3,.cells C 56 [.bool true,.pointer (sgp ((J 3).hs) none Y.2.1),vI Y.2.2]),(10,bag [o5 (((J 7).xs.getD 0 (none,0)).1) (((J 7).xs.getD 1 (none,0)).2) aa.2.1,o4 (((J 7).xs.getD 2 (none,0)).1) (((J 7).xs.getD 3 (none,0)).2) aa.2.2,.cells v 48 [.slice (((J 7).xs.getD 0 (none,0)).1) aa.2.1.length (((J 7).xs.getD 1 (none,0)).2),.slice (((J 7).xs.getD 2 (none,0)).1) aa.2.2.length (((J 7).xs.getD 3 (none,0)).2)]]),(11,bag (sgs 59 nX59 ((J 3).hs) none Y.2.1)),(12,Ent.mine (nins nJ59 ((J 3).hs) Y.2.1))]) (fun w hw => unbag_mem (k := 9) (nk := [11,12,3]) (keys := [3,10,11,12]) hw rfl rfl rfl rfl (by kernel_rfl)) ?_
        refine GS.setMem (mem' := [(3,.cells C 56 [.bool true,.pointer (sgp ((J 3).hs) none Y.2.1),vI Y.2.2]),(6,.cells v 48 [.slice (((J 7).xs.getD 0 (none,0)).1) aa.2.1.length (((J 7).xs.getD 1 (none,0)).2),.slice (((J 7).xs.getD 2 (none,0)).1) aa.2.2.length (((J 7).xs.getD 3 (none,0)).2)]),(11,bag (sgs 59 nX59 ((J 3).hs) none Y.2.1)),(12,Ent.mine (nins nJ59 ((J 3).hs) Y.2.1)),(13,o5 (((J 7).xs.getD 0 (none,0)).1) (((J 7).xs.getD 1 (none,0)).2) aa.2.1),(14,o4 (((J 7).xs.getD 2 (none,0)).1) (((J 7).xs.getD 3 (none,0)).2) aa.2.2)]) (fun w hw => unbag_mem (k := 10) (nk := [13,14,6]) (keys := [3,6,11,12,13,14]) hw rfl rfl rfl rfl (by kernel_rfl)) ?_
        have hy := Option.some.inj hm
        subst hy
        refine GS.ret (fn := Try.f20) [0] [.bool (Y.1 == aa.1)] [] rfl Try.func20 (by kernel_rfl) trivial (fun w' hs => ?_)
        exact ⟨⟨(J 3).hs,((J 7).xs.getD 0 (none,0)).1,((J 7).xs.getD 1 (none,0)).2,((J 7).xs.getD 2 (none,0)).1,((J 7).xs.getD 3 (none,0)).2⟩,rfl,hs.turnedG (ks := [11,12,3,13,14,6]) rfl rfl⟩
      · replace hm := br_f a0 hm
        refine GS.seq ?_
        refine GS.rzM (fun _ => [(0,pA C 0),(1,pA v 0),(5,pA ((D 0).x) 0),(83,.bool (u == 3))]) [] [0,1,5,83] [1,2,3,4,5,6,7,8] (fun _ => by kernel_rfl) ?_
        intro _
        refine GS.cond (t := u == 3) rfl rfl (fun a1 => ?_) (fun a1 => ?_)
        · replace hm := br_t a1 hm
          refine GS.seq ?_
          refine bnd_elim hm (fun N bn hm => ?_)
          refine GS.open_ ?_
          refine GR.rM (i := 0) 5 (env' := fun _ => [(1,pA v 0),(5,pA ((D 0).x) 0),(86,pA C 0),(88,vI O),(90,vI U)]) (by kernel_rfl) (RunsTo.mk [(2,{ act := .load 8 0 0 [] }),(4,{ act := .load 8 0 0 [] })] [1,5,86,88,90] [1,2,3,4,5,6,7,8] (fun _ => [(D 0).x = (D 0).x,(D 0).x = (D 0).x]) (fun _ => by kernel_rfl) (fun _ => ⟨rfl,rfl,trivial⟩)) ?_
          intro _
          refine GR.callG (X := Option Addr × Nat) (i := 5) (g := 11) (ro := [Ent.all (sgs 59 nX59 a none b),Ent.all (nins nJ59 a b),.rd (some ⟨C,0,none⟩) 3 ([[.bool true,.pointer (sgp a none b),vI r]] : List (List Value))]) (mem' := fun ⟨Q,R⟩ => [(1,bag (sgs 59 nX59 a none b)),(2,Ent.mine (nins nJ59 a b)),(3,.cells C 56 [.bool true,.pointer (sgp a none b),vI r]),(4,o5 c d l),(5,o4 e j n),(6,.cells v 48 [.slice c l.length d,.slice e n.length j]),(7,r5 o m),(8,.cells ((D 0).x) 37 [vI u,vI O,vI U,.slice o m.length s]),(9,o5 Q R N.1)]) (env' := fun ⟨Q,R⟩ => [(1,pA v 0),(5,pA ((D 0).x) 0),(91,.tuple #[.slice Q N.1.length R,vI N.2])]) [] [9] [1,5,91] [1,2,3,4,5,6,7,8,9] false (by kernel_rfl) (by kernel_rfl) (by kernel_rfl) (by kernel_rfl) (by kernel_rfl) (fun _ => rfl) (fun _ _ => rfl) ⟨(.inl ⟨1,_,rfl,rfl,Cov.chr,fun h => by cases h⟩),(.inl ⟨2,_,rfl,rfl,Cov.mine,fun h => by cases h⟩),(.inl ⟨3,_,rfl,rfl,Cov.cells_rd,fun h => by cases h⟩),trivial⟩ (by rintro ⟨Q,R⟩; kernel_rfl) (by rintro ⟨Q,R⟩; kernel_rfl) (w___extent_Map__Read F C a b r O U bn) ?_
          rintro ⟨Q,R⟩
          refine GR.rM (i := 6) 5 (env' := fun _ => [(1,pA v 0),(5,pA ((D 0).x) 0),(12,.slice Q N.1.length R),(13,vI N.2)]) (by kernel_rfl) (RunsTo.mk [] [1,5,12,13] [1,2,3,4,5,6,7,8,9] (fun _ => []) (fun _ => by kernel_rfl) (fun _ => trivial)) ?_
          intro _
          refine GR.dn (by kernel_rfl) ?_
          refine GS.seq ?_
          refine bnd_elim hm (fun ad bo hm => ?_)
          refine GS.open_ ?_
          refine GR.ru (i := 0) 5 (env' := fun _ => [(12,.slice Q N.1.length R),(13,vI N.2),(95,pA v 0),(97,vI O),(99,vI U)]) (mem' := fun _ => [(1,bag (sgs 59 nX59 a none b)),(2,Ent.mine (nins nJ59 a b)),(3,.cells C 56 [.bool true,.pointer (sgp a none b),vI r]),(4,o5 c d l),(5,o4 e j n),(6,.cells v 48 [.slice c l.length d,.slice e n.length j]),(9,o5 Q R N.1)]) (by kernel_rfl) (RunsTo.mk [(2,{ act := .load 8 0 0 [] }),(4,{ act := .load 8 0 0 [] })] [12,13,95,97,99] [1,2,3,4,5,6,9] (fun _ => [(D 0).x = (D 0).x,(D 0).x = (D 0).x]) (fun _ => by kernel_rfl) (fun _ => ⟨rfl,rfl,trivial⟩)) ?_
          intro _
          refine GR.callG (X := Option Addr × Nat) (i := 5) (g := 32) (ro := [r5 c l,r4 e n,.rd (some ⟨v,0,none⟩) 2 ([[.slice c l.length d,.slice e n.length j]] : List (List Value))]) (mem' := fun ⟨af,ag⟩ => [(1,bag (sgs 59 nX59 a none b)),(2,Ent.mine (nins nJ59 a b)),(3,.cells C 56 [.bool true,.pointer (sgp a none b),vI r]),(4,o5 c d l),(5,o4 e j n),(6,.cells v 48 [.slice c l.length d,.slice e n.length j]),(9,o5 Q R N.1),(10,o5 af ag ad.1)]) (env' := fun ⟨af,ag⟩ => [(12,.slice Q N.1.length R),(13,vI N.2),(100,.tuple #[.slice af ad.1.length ag,vI ad.2])]) [] [10] [12,13,100] [1,2,3,4,5,6,9,10] false (by kernel_rfl) (by kernel_rfl) (by kernel_rfl) (by kernel_rfl) (by kernel_rfl) (fun _ => rfl) (fun _ _ => rfl) ⟨(.inl ⟨4,_,rfl,rfl,Cov.osl_rd,fun h => by cases h⟩),(.inl ⟨5,_,rfl,rfl,Cov.osl_rd,fun h => by cases h⟩),(.inl ⟨6,_,rfl,rfl,Cov.cells_rd,fun h => by cases h⟩),trivial⟩ (by rintro ⟨af,ag⟩; kernel_rfl) (by rintro ⟨af,ag⟩; kernel_rfl) (w___tholeref05_Map__Read F v c d l e j n O U an bo) ?_
          rintro ⟨af,ag⟩
          refine GR.rM (i := 6) 5 (env' := fun _ => [(12,.slice Q N.1.length R),(13,vI N.2),(14,.slice af ad.1.length ag),(15,vI ad.2)]) (by kernel_rfl) (RunsTo.mk [] [12,13,14,15] [1,2,3,4,5,6,9,10] (fun _ => []) (fun _ => by kernel_rfl) (fun _ => trivial)) ?_
          intro _
          refine GR.dn (by kernel_rfl) ?_
          refine GS.seq ?_
          refine jn_elim hm (fun a8 a2 hm => ?_)
          refine GS.cut (ι := Bool) (I := fun (V : Bool) => a8 V = some y) (E := fun (V : Bool) => [(12,.slice Q N.1.length R),(16,.bool V)]) (M := fun (V : Bool) => [(1,bag (sgs 59 nX59 a none b)),(2,Ent.mine (nins nJ59 a b)),(3,.cells C 56 [.bool true,.pointer (sgp a none b),vI r]),(4,o5 c d l),(5,o4 e j n),(6,.cells v 48 [.slice c l.length d,.slice e n.length j]),(9,o5 Q R N.1)]) ?_ ?_
          rotate_left
          · intro av
            refine bnd_elim hm (fun ap a9 hm => ?_)
            refine br_elim hm (fun au hm => ?_) (fun au hm => ?_)
            · skip
              refine GS.rg (fun _ => [(12,.slice Q N.1.length R),(16,.bool (N.2 == ad.2))]) (fun _ => [(1,bag (sgs 59 nX59 a none b)),(2,Ent.mine (nins nJ59 a b)),(3,.cells C 56 [.bool true,.pointer (sgp a none b),vI r]),(4,o5 c d l),(5,o4 e j n),(6,.cells v 48 [.slice c l.length d,.slice e n.length j]),(9,o5 Q R N.1)]) [(2,{ act := .call [9,10] (.bool ap) }),(3,{ sp := some (.bool true) })] [12,16] [1,2,3,4,5,6,9] (fun _ => [CallOK Try.prog 12 #[.slice Q N.1.length R,.slice af ad.1.length ag] (.bool ap) [some (o5 Q R N.1),some (o5 af ag ad.1)],((.bool ap) : Value) = .bool true]) (fun _ => by kernel_rfl) (fun _ => ⟨(by have h1 := w_tholeref01_Same F Q R N.1 af ag ad.1 a9; exact h1.ok ⟨(.inl ⟨o5 Q R N.1,.head _,Cov.osl_rd⟩),(.inl ⟨o5 af ag ad.1,(.tail _ (.head _)),Cov.osl_rd⟩),trivial⟩),bool_eq au,trivial⟩) ?_
              intro _
              refine GS.rekey (env' := [(12,.slice Q N.1.length R),(16,.bool (N.2 == ad.2))]) (mem' := [(1,bag (sgs 59 nX59 a none b)),(2,Ent.mine (nins nJ59 a b)),(3,.cells C 56 [.bool true,.pointer (sgp a none b),vI r]),(4,o5 c d l),(5,o4 e j n),(6,.cells v 48 [.slice c l.length d,.slice e n.length j]),(9,o5 Q R N.1)]) [12,16] [(1,1),(2,2),(3,3),(4,4),(5,5),(6,6),(9,9)] (by kernel_rfl) (by kernel_rfl) rfl ?_
              exact av (N.2 == ad.2) hm
            · skip
              refine GS.rg (fun _ => [(12,.slice Q N.1.length R),(16,.bool false)]) (fun _ => [(1,bag (sgs 59 nX59 a none b)),(2,Ent.mine (nins nJ59 a b)),(3,.cells C 56 [.bool true,.pointer (sgp a none b),vI r]),(4,o5 c d l),(5,o4 e j n),(6,.cells v 48 [.slice c l.length d,.slice e n.length j]),(9,o5 Q R N.1)]) [(2,{ act := .call [9,10] (.bool ap) }),(3,{ sp := some (.bool false) })] [12,16] [1,2,3,4,5,6,9] (fun _ => [CallOK Try.prog 12 #[.slice Q N.1.length R,.slice af ad.1.length ag] (.bool ap) [some (o5 Q R N.1),some (o5 af ag ad.1)],((.bool ap) : Value) = .bool false]) (fun _ => by kernel_rfl) (fun _ => ⟨(by have h1 := w_tholeref01_Same F Q R N.1 af ag ad.1 a9; exact h1.ok ⟨(.inl ⟨o5 Q R N.1,.head _,Cov.osl_rd⟩),(.inl ⟨o5 af ag ad.1,(.tail _ (.head _)),Cov.osl_rd⟩),trivial⟩),bool_eq au,trivial⟩) ?_
              intro _
              refine GS.rekey (env' := [(12,.slice Q N.1.length R),(16,.bool false)]) (mem' := [(1,bag (sgs 59 nX59 a none b)),(2,Ent.mine (nins nJ59 a b)),(3,.cells C 56 [.bool true,.pointer (sgp a none b),vI r]),(4,o5 c d l),(5,o4 e j n),(6,.cells v 48 [.slice c l.length d,.slice e n.length j]),(9,o5 Q R N.1)]) [12,16] [(1,1),(2,2),(3,3),(4,4),(5,5),(6,6),(9,9)] (by kernel_rfl) (by kernel_rfl) rfl ?_
              exact av false hm
          · rintro V hm
            replace hm := (a2 _).symm.trans hm
            try dsimp only at hm
            refine GS.seq ?_
            refine GS.seq ?_
            refine GS.rzM (fun _ => [(12,.slice Q N.1.length R),(16,.bool V),(112,vI (N.1.length : Int)),(113,vI 0)]) [] [12,16,112,113] [1,2,3,4,5,6,9] (fun _ => by kernel_rfl) ?_
            intro _
            refine GS.block ?_
            refine GS.loop ?_
            refine GS.know (p := N.1.length ≤ R) (fun w hw => by first | (have h := (hw.ok 9 _ rfl).1.1; rw [List.length_map] at h; exact h) | (have h := (hw.ok 9 _ rfl).1.1; rw [nrows_len] at h; exact h) | simpa using (hw.ok 9 _ rfl).1.1) (fun bp => ?_)
            refine grd_elim hm (fun ba hm => ?_)
            refine GS.rekey (env' := [(12,.slice Q N.1.length R),(16,.bool V),(112,vI (N.1.length : Int)),(113,vI 0)]) (mem' := [(1,bag (sgs 59 nX59 a none b)),(2,Ent.mine (nins nJ59 a b)),(3,.cells C 56 [.bool true,.pointer (sgp a none b),vI r]),(4,o5 c d l),(5,o4 e j n),(6,.cells v 48 [.slice c l.length d,.slice e n.length j]),(9,o5 Q R N.1)]) [12,16,112,113] [(1,1),(2,2),(3,3),(4,4),(5,5),(6,6),(9,9)] (by kernel_rfl) (by kernel_rfl) rfl ?_
            refine loopC_elim hm (fun st132 fn133 hst134 hfn135 hm => ?_)
            refine GS.loopInv (ι := Nat × Nat × List UInt8) (I := fun ⟨ab,q,T⟩ => (((N.1.length : Int)) - (q : Int) : Int).toNat = ab ∧ loopC st132 fn133 ab q T = some y) (μ := fun ⟨ab,q,T⟩ => ab) (E := fun ⟨ab,q,T⟩ => [(12,.slice Q T.length R),(16,.bool V),(112,vI (N.1.length : Int)),(113,vI (q : Int))]) (M := fun ⟨ab,q,T⟩ => [(1,bag (sgs 59 nX59 a none b)),(2,Ent.mine (nins nJ59 a b)),(3,.cells C 56 [.bool true,.pointer (sgp a none b),vI r]),(4,o5 c d l),(5,o4 e j n),(6,.cells v 48 [.slice c l.length d,.slice e n.length j]),(9,o5 Q R T)]) ?_ ⟨(Int.toNat ((N.1.length : Int) - (0 : Int))),0,N.1⟩ ⟨rfl,hm⟩
            rintro ⟨ab,q,T⟩ ⟨am,hm⟩ a3
            cases ab with
            | zero =>
              replace hm := (hfn135 _ _).symm.trans hm
              try dsimp only at hm
              refine GS.seq ?_
              refine GS.rzM (fun _ => [(12,.slice Q T.length R),(16,.bool V),(112,vI (N.1.length : Int)),(113,vI (q : Int)),(114,.bool (decide ((q : Int) < (N.1.length : Int))))]) [] [12,16,112,113,114] [1,2,3,4,5,6,9] (fun _ => by kernel_rfl) ?_
              intro _
              refine GS.seq ?_
              refine GS.cond (t := decide ((q : Int) < (N.1.length : Int))) rfl rfl (fun bb => absb bb (cnt0 am)) (fun _ => ?_)
              refine GS.exit rfl ?_
              refine GS.seq ?_
              refine GS.rz (fun _ => [(6,.bool V)]) (fun _ => [(1,bag (sgs 59 nX59 a none b)),(2,Ent.mine (nins nJ59 a b)),(3,.cells C 56 [.bool true,.pointer (sgp a none b),vI r]),(4,o5 c d l),(5,o4 e j n),(6,.cells v 48 [.slice c l.length d,.slice e n.length j])]) [] [6] [1,2,3,4,5,6] (fun _ => by kernel_rfl) ?_
              intro _
              have hy := Option.some.inj hm
              subst hy
              refine GS.ret (fn := Try.f20) [0] [.bool V] [] rfl Try.func20 (by kernel_rfl) trivial (fun w' hs => ?_)
              exact ⟨⟨a,c,d,e,j⟩,rfl,hs.turnedG (ks := [1,2,3,4,5,6]) rfl rfl⟩
            | succ ab =>
              replace hm := (hst134 _ _ _).symm.trans hm
              try dsimp only at hm
              refine GS.seq ?_
              refine GS.rzM (fun _ => [(12,.slice Q T.length R),(16,.bool V),(112,vI (N.1.length : Int)),(113,vI (q : Int)),(114,.bool (decide ((q : Int) < (N.1.length : Int))))]) [] [12,16,112,113,114] [1,2,3,4,5,6,9] (fun _ => by kernel_rfl) ?_
              intro _
              refine GS.seq ?_
              refine GS.cond (t := decide ((q : Int) < (N.1.length : Int))) rfl rfl (fun _ => ?_) (fun bc => absb (cnt1 am) bc)
              refine GS.skip ?_
              refine GS.seq ?_
              refine GS.block ?_
              refine GS.seq ?_
              refine GS.rzM (fun _ => [(12,.slice Q T.length R),(16,.bool V),(17,vI (q : Int)),(112,vI (N.1.length : Int)),(113,vI (q : Int))]) [] [12,16,17,112,113] [1,2,3,4,5,6,9] (fun _ => by kernel_rfl) ?_
              intro _
              refine grd_elim hm (fun aw hm => ?_)
              refine GS.rg (fun _ => [(12,.slice Q T.length R),(16,.bool V),(112,vI (N.1.length : Int)),(113,vI (q : Int))]) (fun _ => [(1,bag (sgs 59 nX59 a none b)),(2,Ent.mine (nins nJ59 a b)),(3,.cells C 56 [.bool true,.pointer (sgp a none b),vI r]),(4,o5 c d l),(5,o4 e j n),(6,.cells v 48 [.slice c l.length d,.slice e n.length j]),(9,.osl Q R 5 1 ((List.map rB T).set q [.int .u8 9]))]) [(2,{ act := .idx 9 q }),(3,{ act := .store q 0 [.int .u8 (((T.getD q 0).toNat : Nat) : Int)],key := some 9 })] [12,16,112,113] [1,2,3,4,5,6,9] (fun _ => [Q = Q,T.length = (List.map rB T).length,((q : Int) : Int) = (q : Int),q < T.length,blk Q = blk Q,offs Q + q * 1 = offs Q + (q * 1 + 0),(List.map rB T)[q]? = some [.int .u8 (((T.getD q 0).toNat : Nat) : Int)],oC (.int .u8 9)]) (fun _ => by kernel_rfl) (fun _ => ⟨rfl,mlen rB T,rfl,aw,rfl,rfl,map_at rB 0 aw,rfl,trivial⟩) ?_
              intro _
              refine GS.conv (mem' := [(1,bag (sgs 59 nX59 a none b)),(2,Ent.mine (nins nJ59 a b)),(3,.cells C 56 [.bool true,.pointer (sgp a none b),vI r]),(4,o5 c d l),(5,o4 e j n),(6,.cells v 48 [.slice c l.length d,.slice e n.length j]),(9,o5 Q R (T.set q (9 : UInt8)))]) rfl (congrArg (fun rr : List (List Value) => ([(1,bag (sgs 59 nX59 a none b)),(2,Ent.mine (nins nJ59 a b)),(3,.cells C 56 [.bool true,.pointer (sgp a none b),vI r]),(4,o5 c d l),(5,o4 e j n),(6,.cells v 48 [.slice c l.length d,.slice e n.length j]),(9,.osl Q R 5 1 rr)] : List (Nat × Ent))) (show (List.map rB T).set q [.int .u8 9] = List.map rB (T.set q (9 : UInt8)) from mset rB T q (9 : UInt8))) ?_
              refine GS.inBlock ?_
              refine GS.conv (env' := [(12,.slice Q ((T.set q (9 : UInt8)).length) R),(16,.bool V),(112,vI (N.1.length : Int)),(113,vI (q : Int))]) (congrArg (fun vhole : Value => [(12,vhole),(16,.bool V),(112,vI (N.1.length : Int)),(113,vI (q : Int))]) (show ((.slice Q T.length R) : Value) = .slice Q ((T.set q (9 : UInt8)).length) R from (by simp []))) rfl ?_
              refine GS.rgM (fun _ => [(12,.slice Q ((T.set q (9 : UInt8)).length) R),(16,.bool V),(112,vI (N.1.length : Int)),(113,vI ((q + 1 : Nat) : Int))]) [(0,{ sp := some (vI ((q + 1 : Nat) : Int)) })] [12,16,112,113] [1,2,3,4,5,6,9] (fun _ => [((vI (IntKind.i64.wrap ((q : Int) + 1))) : Value) = vI ((q + 1 : Nat) : Int)]) (fun _ => by kernel_rfl) (fun _ => ⟨natwB (cnt1 am) ba,trivial⟩) ?_
              intro _
              refine GS.inLoop ?_
              refine GS.rekey (env' := [(12,.slice Q ((T.set q (9 : UInt8)).length) R),(16,.bool V),(112,vI (N.1.length : Int)),(113,vI ((q + 1 : Nat) : Int))]) (mem' := [(1,bag (sgs 59 nX59 a none b)),(2,Ent.mine (nins nJ59 a b)),(3,.cells C 56 [.bool true,.pointer (sgp a none b),vI r]),(4,o5 c d l),(5,o4 e j n),(6,.cells v 48 [.slice c l.length d,.slice e n.length j]),(9,o5 Q R (T.set q (9 : UInt8)))]) [12,16,112,113] [(1,1),(2,2),(3,3),(4,4),(5,5),(6,6),(9,9)] (by kernel_rfl) (by kernel_rfl) rfl ?_
              exact a3 ⟨ab,q + 1,(T.set q (9 : UInt8))⟩ ⟨cntN am,hm⟩ (Nat.lt_succ_self _)
        · replace hm := br_f a1 hm
          refine GS.skip ?_
          refine GS.inBlock ?_
          refine GS.seq ?_
          refine GS.rz (fun _ => [(6,.bool true)]) (fun _ => [(1,bag (sgs 59 nX59 a none b)),(2,Ent.mine (nins nJ59 a b)),(3,.cells C 56 [.bool true,.pointer (sgp a none b),vI r]),(4,o5 c d l),(5,o4 e j n),(6,.cells v 48 [.slice c l.length d,.slice e n.length j])]) [] [6] [1,2,3,4,5,6] (fun _ => by kernel_rfl) ?_
          intro _
          have hy := Option.some.inj hm
          subst hy
          refine GS.ret (fn := Try.f20) [0] [.bool true] [] rfl Try.func20 (by kernel_rfl) trivial (fun w' hs => ?_)
          exact ⟨⟨a,c,d,e,j⟩,rfl,hs.turnedG (ks := [1,2,3,4,5,6]) rfl rfl⟩

theorem w___extent_Map__Size (F : Nat) (c : Nat) (a : Value) (b : Int) {y : Int} (hm : m___extent_Map__Size F b = some y) : CallG Try.prog 15 #[pA c 0] (X := Unit) (fun (_ : Unit) => vI y) [] [.rd (some ⟨c,0,none⟩) 3 ([[.bool true,a,vI b]] : List (List Value))] (fun (_ : Unit) => []) := by
  intro w hg
  rw [m___extent_Map__Size] at hm
  refine GS.start (S := mayT [] [.rd (some ⟨c,0,none⟩) 3 ([[.bool true,a,vI b]] : List (List Value))]) (mem := [(1,.rd (some ⟨c,0,none⟩) 3 ([[.bool true,a,vI b]] : List (List Value)))]) Try.func15 rfl Try.ntmps15 (Nat.le_of_ble_eq_true rfl) (hg.start rfl) ?_
  refine GS.conv (env' := [(0,pA c 0)]) rfl rfl ?_
  refine GS.seq ?_
  refine GS.rzM (fun _ => [(0,pA c 0)]) [] [0] [1] (fun _ => by kernel_rfl) ?_
  intro _
  refine GS.seq ?_
  refine GS.seq ?_
  refine bnd_elim hm (fun y3 e4 hm => ?_)
  refine GS.rgM (fun _ => [(0,pA c 0),(5,.bool false)]) [(1,{ act := .call [1] (.bool true) })] [0,5] [1] (fun _ => [CallOK Try.prog 25 #[pA c 0] (.bool true) [some (.rd (some ⟨c,0,none⟩) 3 ([[.bool true,a,vI b]] : List (List Value)))]]) (fun _ => by kernel_rfl) (fun _ => ⟨(by have h1 := w___extent_Map__is F c a b e4; exact h1.ok ⟨(.inl ⟨.rd (some ⟨c,0,none⟩) 3 ([[.bool true,a,vI b]] : List (List Value)),.head _,Cov.refl _⟩),trivial⟩),trivial⟩) ?_
  intro _
  refine GS.cond (t := false) rfl rfl (fun hf => by cases hf) (fun _ => ?_)
  refine GS.skip ?_
  refine GS.seq ?_
  refine GS.rg (fun _ => [(2,vI b)]) (fun _ => []) [(3,{ act := .load 1 0 2 [.bool true,a,vI b] })] [2] [] (fun _ => [c = blk (some ⟨c,0,none⟩),2 = offs (some ⟨c,0,none⟩) + (0 * 3 + 2),([[.bool true,a,vI b]] : List (List Value))[0]? = some [.bool true,a,vI b]]) (fun _ => by kernel_rfl) (fun _ => ⟨rfl,rfl,rfl,trivial⟩) ?_
  intro _
  have hy := Option.some.inj hm
  subst hy
  refine GS.ret (fn := Try.f15) [0] [vI b] [] rfl Try.func15 (by kernel_rfl) trivial (fun w' hs => ?_)
  exact ⟨(),rfl,hs.turnedG (ks := []) rfl rfl⟩

theorem w___tholeref05_Map__Copy_2 (F : Nat) (i : Nat) (d : Option Addr) (g : Nat) (a : List UInt8) (e : Option Addr) (h : Nat) (b : List Bool) {y : List UInt8 × List Bool} (hm : m___tholeref05_Map__Copy_2 F a b = some y) : CallG Try.prog 19 #[pA i 0] (X := Nat × Option Addr × Nat × Option Addr × Nat) (fun ⟨x0,x1,x2,x3,x4⟩ => pA x0 0) [] [r5 d a,r4 e b,.rd (some ⟨i,0,none⟩) 2 ([[.slice d a.length g,.slice e b.length h]] : List (List Value))] (fun ⟨x0,x1,x2,x3,x4⟩ => [o5 x1 x2 y.1,o4 x3 x4 y.2,.cells x0 48 [.slice x1 y.1.length x2,.slice x3 y.2.length x4]]) := by
  intro w hg
  rw [m___tholeref05_Map__Copy_2] at hm
  refine GS.start (S := mayT [] [r5 d a,r4 e b,.rd (some ⟨i,0,none⟩) 2 ([[.slice d a.length g,.slice e b.length h]] : List (List Value))]) (mem := [(1,r5 d a),(2,r4 e b),(3,.rd (some ⟨i,0,none⟩) 2 ([[.slice d a.length g,.slice e b.length h]] : List (List Value)))]) Try.func19 rfl Try.ntmps19 (Nat.le_of_ble_eq_true rfl) (hg.start rfl) ?_
  refine GS.conv (env' := [(0,pA i 0)]) rfl rfl ?_
  refine GS.seq ?_
  refine GS.rzM (fun _ => [(0,pA i 0)]) [] [0] [1,2,3] (fun _ => by kernel_rfl) ?_
  intro _
  refine GS.seq ?_
  refine grd_elim hm (fun g3 hm => ?_)
  refine grd_elim hm (fun g4 hm => ?_)
  refine GS.region (env' := fun c => [(2,pA ((c 13).x) 0)]) (mem' := fun c => [(4,.osl ((c 5).ob) ((c 5).cap) 5 1 (([] : List (List Value)) ++ (List.map rB a))),(5,.osl ((c 11).ob) ((c 11).cap) 4 1 (([] : List (List Value)) ++ (List.map rBo b))),(6,.cells ((c 13).x) 48 [.slice ((c 5).ob) ((([] : List UInt8) ++ a).length) ((c 5).cap),.slice ((c 11).ob) ((([] : List Bool) ++ b).length) ((c 11).cap)])]) (RunsTo.mkd [(0,{ act := .new (.row 0 1),key := some 4,spf := some (fun f => .slice (some (Addr.mk f.x 0 none)) ((([] : List UInt8) : List UInt8).length) 0) }),(4,{ act := .load 3 0 0 [.slice d a.length g,.slice e b.length h] }),(5,{ act := .app (some 1),key := some 4,spf := some (fun f => .slice (f.ob) ((([] : List UInt8) ++ a).length) (f.cap)) }),(6,{ act := .new (.row 0 1),key := some 5,spf := some (fun f => .slice (some (Addr.mk f.x 0 none)) ((([] : List Bool) : List Bool).length) 0) }),(10,{ act := .load 3 0 1 [.slice d a.length g,.slice e b.length h] }),(11,{ act := .app (some 2),key := some 5,spf := some (fun f => .slice (f.ob) ((([] : List Bool) ++ b).length) (f.cap)) }),(13,{ act := .new .var,key := some 6 })] [2] [4,5,6] (fun c => [((.slice (some (Addr.mk (c 0).x 0 none)) 0 0) : Value) = .slice (some (Addr.mk (c 0).x 0 none)) ((([] : List UInt8) : List UInt8).length) 0,i = blk (some ⟨i,0,none⟩),0 = offs (some ⟨i,0,none⟩) + (0 * 2 + 0),([[.slice d a.length g,.slice e b.length h]] : List (List Value))[0]? = some [.slice d a.length g,.slice e b.length h],d = d,a.length = (List.map rB a).length,(some (Addr.mk (c 0).x 0 none)) = (some (Addr.mk (c 0).x 0 none)),0 = 0,(([] : List UInt8) : List UInt8).length = ([] : List (List Value)).length,(([] : List (List Value)).length + (List.map rB a).length) * (1 + 1) ≤ 70368744177664,(List.map rB a).flatten.all Value.oneCell' = true,((.slice ((c 5).ob) (((([] : List UInt8) : List UInt8).length) + (List.map rB a).length) ((c 5).cap)) : Value) = .slice ((c 5).ob) ((([] : List UInt8) ++ a).length) ((c 5).cap),((.slice (some (Addr.mk (c 6).x 0 none)) 0 0) : Value) = .slice (some (Addr.mk (c 6).x 0 none)) ((([] : List Bool) : List Bool).length) 0,i = blk (some ⟨i,0,none⟩),1 = offs (some ⟨i,0,none⟩) + (0 * 2 + 1),([[.slice d a.length g,.slice e b.length h]] : List (List Value))[0]? = some [.slice d a.length g,.slice e b.length h],e = e,b.length = (List.map rBo b).length,(some (Addr.mk (c 6).x 0 none)) = (some (Addr.mk (c 6).x 0 none)),0 = 0,(([] : List Bool) : List Bool).length = ([] : List (List Value)).length,(([] : List (List Value)).length + (List.map rBo b).length) * (1 + 1) ≤ 70368744177664,(List.map rBo b).flatten.all Value.oneCell' = true,((.slice ((c 11).ob) (((([] : List Bool) : List Bool).length) + (List.map rBo b).length) ((c 11).cap)) : Value) = .slice ((c 11).ob) ((([] : List Bool) ++ b).length) ((c 11).cap)]) (by kernel_rfl) (by kernel_rfl) (fun c => by kernel_rfl) (fun c => ⟨rfl,rfl,rfl,rfl,rfl,mlen rB a,rfl,rfl,(by rw [show ([] : List (List Value)) = List.map rB ([] : List UInt8) from rfl]; exact mlen rB ([] : List UInt8)),appb g3 (by rw [show ([] : List (List Value)) = List.map rB ([] : List UInt8) from rfl]; exact (mlen rB ([] : List UInt8)).symm) (mlen rB a).symm,(by rw [show List.map rB a = List.map rB a from rfl]; exact all_one rB _ (fun _ => rfl)),slen (by simp),rfl,rfl,rfl,rfl,rfl,mlen rBo b,rfl,rfl,(by rw [show ([] : List (List Value)) = List.map rBo ([] : List Bool) from rfl]; exact mlen rBo ([] : List Bool)),appb g4 (by rw [show ([] : List (List Value)) = List.map rBo ([] : List Bool) from rfl]; exact (mlen rBo ([] : List Bool)).symm) (mlen rBo b).symm,(by rw [show List.map rBo b = List.map rBo b from rfl]; exact all_one rBo _ (fun _ => rfl)),slen (by simp),trivial⟩)) ?_
  intro c
  refine GS.conv (mem' := [(4,o5 ((c 5).ob) ((c 5).cap) (([] : List UInt8) ++ a)),(5,.osl ((c 11).ob) ((c 11).cap) 4 1 (([] : List (List Value)) ++ (List.map rBo b))),(6,.cells ((c 13).x) 48 [.slice ((c 5).ob) ((([] : List UInt8) ++ a).length) ((c 5).cap),.slice ((c 11).ob) ((([] : List Bool) ++ b).length) ((c 11).cap)])]) rfl (congrArg (fun rr : List (List Value) => ([(4,.osl ((c 5).ob) ((c 5).cap) 5 1 rr),(5,.osl ((c 11).ob) ((c 11).cap) 4 1 (([] : List (List Value)) ++ (List.map rBo b))),(6,.cells ((c 13).x) 48 [.slice ((c 5).ob) ((([] : List UInt8) ++ a).length) ((c 5).cap),.slice ((c 11).ob) ((([] : List Bool) ++ b).length) ((c 11).cap)])] : List (Nat × Ent))) (show ([] : List (List Value)) ++ (List.map rB a) = List.map rB (([] : List UInt8) ++ a) from (by rw [show ([] : List (List Value)) = List.map rB ([] : List UInt8) from rfl,show List.map rB a = List.map rB a from rfl]; exact mapp rB _ _))) ?_
  refine GS.conv (mem' := [(4,o5 ((c 5).ob) ((c 5).cap) (([] : List UInt8) ++ a)),(5,o4 ((c 11).ob) ((c 11).cap) (([] : List Bool) ++ b)),(6,.cells ((c 13).x) 48 [.slice ((c 5).ob) ((([] : List UInt8) ++ a).length) ((c 5).cap),.slice ((c 11).ob) ((([] : List Bool) ++ b).length) ((c 11).cap)])]) rfl (congrArg (fun rr : List (List Value) => ([(4,o5 ((c 5).ob) ((c 5).cap) (([] : List UInt8) ++ a)),(5,.osl ((c 11).ob) ((c 11).cap) 4 1 rr),(6,.cells ((c 13).x) 48 [.slice ((c 5).ob) ((([] : List UInt8) ++ a).length) ((c 5).cap),.slice ((c 11).ob) ((([] : List Bool) ++ b).length) ((c 11).cap)])] : List (Nat × Ent))) (show ([] : List (List Value)) ++ (List.map rBo b) = List.map rBo (([] : List Bool) ++ b) from (by rw [show ([] : List (List Value)) = List.map rBo ([] : List Bool) from rfl,show List.map rBo b = List.map rBo b from rfl]; exact mapp rBo _ _))) ?_
  have hy := Option.some.inj hm
  subst hy
  refine GS.ret (fn := Try.f19) [0] [pA ((c 13).x) 0] [] rfl Try.func19 (by kernel_rfl) trivial (fun w' hs => ?_)
  exact ⟨⟨(c 13).x,(c 5).ob,(c 5).cap,(c 11).ob,(c 11).cap⟩,rfl,hs.turnedG (ks := [4,5,6]) rfl rfl⟩

end Go.Proofs.Ytmdfkklldbfocaa
