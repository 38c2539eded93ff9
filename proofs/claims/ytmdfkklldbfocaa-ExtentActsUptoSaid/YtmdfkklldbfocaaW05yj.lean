/-
  CHAPTER 05y: the functions do what their models say (10).
-/
import Derived.Test.YtmdfkklldbfocaaM05y
import Derived.Test.YtmdfkklldbfocaaW05ya
import Derived.Test.YtmdfkklldbfocaaW05yc
import Derived.Test.YtmdfkklldbfocaaW05ye
import Derived.Test.YtmdfkklldbfocaaW05yf
import Derived.Test.YtmdfkklldbfocaaW05yh
import Derived.Test.YtmdfkklldbfocaaW05yi
set_option linter.unusedVariables false
set_option linter.unusedSimpArgs false
set_option maxRecDepth 100000
set_option maxHeartbeats 8000000
namespace Go.Proofs.Ytmdfkklldbfocaa
open Go Go.RowKit Sx

theorem w_tholelaw05_ExtentActs (F : Nat) (u : Option Addr) (P : Nat) (b : Hds) (a0 : List S_tholelaw05_Act) {y : Bool} (hm : m_tholelaw05_ExtentActs F a0 = some y) : CallG Try.prog 5 #[.slice u a0.length P] (X := Unit) (fun (_ : Unit) => .bool y) [] [.rd u 4 (nrows nR37 b a0),Ent.all (nins nJ37 b a0)] (fun (_ : Unit) => []) := by
  intro w hg
  rw [m_tholelaw05_ExtentActs] at hm
  refine GS.start (S := mayT [] [.rd u 4 (nrows nR37 b a0),Ent.all (nins nJ37 b a0)]) (mem := [(1,.rd u 4 (nrows nR37 b a0)),(2,Ent.all (nins nJ37 b a0))]) Try.func5 rfl Try.ntmps5 (Nat.le_of_ble_eq_true rfl) (hg.start rfl) ?_
  refine GS.conv (env' := [(0,.slice u a0.length P)]) rfl rfl ?_
  refine GS.seq ?_
  refine GS.rzM (fun _ => [(0,.slice u a0.length P)]) [] [0] [1,2] (fun _ => by kernel_rfl) ?_
  intro _
  refine GS.seq ?_
  refine bnd_elim hm (fun y3 e4 hm => ?_)
  refine GS.open_ ?_
  refine GR.callG (X := Nat) (i := 0) (g := 8) (ro := []) (mem' := fun (x5 : Nat) => [(1,.rd u 4 (nrows nR37 b a0)),(2,Ent.all (nins nJ37 b a0)),(3,.cells x5 56 [.bool true,.pointer none,vI y3])]) (env' := fun (x5 : Nat) => [(0,.slice u a0.length P),(8,pA x5 0)]) [] [3] [0,8] [1,2,3] false (by kernel_rfl) (by kernel_rfl) (by kernel_rfl) (by kernel_rfl) (by kernel_rfl) (fun _ => rfl) (fun _ _ => rfl) trivial (by rintro x5; kernel_rfl) (by rintro x5; kernel_rfl) (w_extent_New F  e4) ?_
  rintro x5
  refine GR.rM (i := 1) 1 (env' := fun _ => [(0,.slice u a0.length P),(3,pA x5 0)]) (by kernel_rfl) (RunsTo.mk [] [0,3] [1,2,3] (fun _ => []) (fun _ => by kernel_rfl) (fun _ => trivial)) ?_
  intro _
  refine GR.dn (by kernel_rfl) ?_
  refine GS.seq ?_
  refine GS.rz (fun a6 => [(0,.slice u a0.length P),(3,pA x5 0),(4,pA ((a6 1).x) 0)]) (fun a6 => [(1,.rd u 4 (nrows nR37 b a0)),(2,Ent.all (nins nJ37 b a0)),(3,.cells x5 56 [.bool true,.pointer none,vI y3]),(4,.cells ((a6 1).x) 48 [.slice none 0 0,.slice none 0 0])]) [(1,{ act := .new .var,key := some 4 })] [0,3,4] [1,2,3,4] (fun a6 => by kernel_rfl) ?_
  intro a6
  refine GS.seq ?_
  refine GS.seq ?_
  refine GS.rzM (fun _ => [(0,.slice u a0.length P),(3,pA x5 0),(4,pA ((a6 1).x) 0),(12,.bool false)]) [] [0,3,4,12] [1,2,3,4] (fun _ => by kernel_rfl) ?_
  intro _
  refine GS.cond (t := false) rfl rfl (fun hf => by cases hf) (fun _ => ?_)
  refine GS.skip ?_
  refine GS.seq ?_
  refine GS.seq ?_
  refine GS.rzM (fun _ => [(3,pA x5 0),(4,pA ((a6 1).x) 0),(13,.slice u a0.length P),(14,vI (a0.length : Int)),(15,vI 0)]) [] [3,4,13,14,15] [1,2,3,4] (fun _ => by kernel_rfl) ?_
  intro _
  refine GS.block ?_
  refine GS.loop ?_
  refine GS.setMem (mem' := [(1,.rd u 4 (nrows nR37 b a0)),(2,Ent.all (nins nJ37 b a0)),(3,.cells x5 56 [.bool true,.pointer none,vI y3]),(4,.cells ((a6 1).x) 48 [.slice none 0 0,.slice none 0 0]),(5,bag (sgs 59 nX59 (fun _ => nilH) none ([] : List S_extent_run))),(6,Ent.mine (nins nJ59 (fun _ => nilH) ([] : List S_extent_run)))]) (fun w hw => ch_nilM (α := S_extent_run) (k := 5) (ik := 6) (T := 59) (X := nX59) (h := fun _ => nilH) (q := none) (J := nJ59) (h2 := fun _ => nilH) [1,2,3,4,5,6] hw (by kernel_rfl)) ?_
  refine GS.conv (env' := [(3,pA x5 0),(4,pA ((a6 1).x) 0),(13,.slice u a0.length P),(14,vI (a0.length : Int)),(15,vI 0)]) (mem' := [(1,.rd u 4 (nrows nR37 b a0)),(2,Ent.all (nins nJ37 b a0)),(3,.cells x5 56 [.bool true,.pointer (sgp (fun _ => nilH) none ([] : List S_extent_run)),vI y3]),(4,.cells ((a6 1).x) 48 [.slice none 0 0,.slice none 0 0]),(5,bag (sgs 59 nX59 (fun _ => nilH) none ([] : List S_extent_run))),(6,Ent.mine (nins nJ59 (fun _ => nilH) ([] : List S_extent_run)))]) (rfl) (rfl) ?_
  refine grd_elim hm (fun bq hm => ?_)
  refine GS.setMem (mem' := [(1,.rd u 4 (nrows nR37 b a0)),(2,Ent.all (nins nJ37 b a0)),(3,.cells x5 56 [.bool true,.pointer (sgp (fun _ => nilH) none ([] : List S_extent_run)),vI y3]),(4,.cells ((a6 1).x) 48 [.slice none 0 0,.slice none 0 0]),(5,bag (sgs 59 nX59 (fun _ => nilH) none ([] : List S_extent_run))),(6,Ent.mine (nins nJ59 (fun _ => nilH) ([] : List S_extent_run))),(20002,o5 none 0 ([] : List UInt8))]) (fun w hw => Sat.addNil hw rfl) ?_
  refine GS.setMem (mem' := [(1,.rd u 4 (nrows nR37 b a0)),(2,Ent.all (nins nJ37 b a0)),(3,.cells x5 56 [.bool true,.pointer (sgp (fun _ => nilH) none ([] : List S_extent_run)),vI y3]),(4,.cells ((a6 1).x) 48 [.slice none 0 0,.slice none 0 0]),(5,bag (sgs 59 nX59 (fun _ => nilH) none ([] : List S_extent_run))),(6,Ent.mine (nins nJ59 (fun _ => nilH) ([] : List S_extent_run))),(20002,o5 none 0 ([] : List UInt8)),(20003,o4 none 0 ([] : List Bool))]) (fun w hw => Sat.addNil hw rfl) ?_
  refine GS.rekey (env' := [(3,pA x5 0),(4,pA ((a6 1).x) 0),(13,.slice u a0.length P),(14,vI (a0.length : Int)),(15,vI 0)]) (mem' := [(1,.rd u 4 (nrows nR37 b a0)),(2,Ent.all (nins nJ37 b a0)),(3,.cells x5 56 [.bool true,.pointer (sgp (fun _ => nilH) none ([] : List S_extent_run)),vI y3]),(4,.cells ((a6 1).x) 48 [.slice none 0 0,.slice none 0 0]),(5,bag (sgs 59 nX59 (fun _ => nilH) none ([] : List S_extent_run))),(6,Ent.mine (nins nJ59 (fun _ => nilH) ([] : List S_extent_run))),(20000,o5 none 0 ([] : List UInt8)),(20001,o4 none 0 ([] : List Bool))]) [3,4,13,14,15] [(1,1),(2,2),(3,3),(4,4),(5,5),(6,6),(20000,20002),(20001,20003)] (by kernel_rfl) (by kernel_rfl) rfl ?_
  refine loopL_elim hm (fun st195 fn196 hst197 hfn198 hm => ?_)
  refine GS.loopInv (ι := List S_tholelaw05_Act × Nat × Int × List S_extent_run × List UInt8 × List Bool × Nat × Nat × Hds × Option Addr × Nat × Option Addr × Nat) (I := fun ⟨aw,a,H,v,c,d,G,D,C,e,l,j,m⟩ => a0.drop a = aw ∧ loopL st195 fn196 aw a (H,v,c,d) = some y) (μ := fun ⟨aw,a,H,v,c,d,G,D,C,e,l,j,m⟩ => aw.length) (E := fun ⟨aw,a,H,v,c,d,G,D,C,e,l,j,m⟩ => [(3,pA G 0),(4,pA D 0),(13,.slice u a0.length P),(14,vI (a0.length : Int)),(15,vI (a : Int))]) (M := fun ⟨aw,a,H,v,c,d,G,D,C,e,l,j,m⟩ => [(1,.rd u 4 (nrows nR37 b a0)),(2,Ent.all (nins nJ37 b a0)),(3,.cells G 56 [.bool true,.pointer (sgp C none v),vI H]),(4,.cells D 48 [.slice e c.length l,.slice j d.length m]),(5,bag (sgs 59 nX59 C none v)),(6,Ent.mine (nins nJ59 C v)),(20000,o5 e l c),(20001,o4 j m d)]) ?_ ⟨a0,0,y3,([] : List S_extent_run),([] : List UInt8),([] : List Bool),x5,(a6 1).x,(fun _ => nilH),none,0,none,0⟩ ⟨List.drop_zero ..,hm⟩
  rintro ⟨aw,a,H,v,c,d,G,D,C,e,l,j,m⟩ ⟨ay,hm⟩ bn
  cases aw with
  | nil =>
    replace hm := (hfn198 _ _).symm.trans hm
    try dsimp only at hm
    refine GS.seq ?_
    refine GS.rzM (fun _ => [(3,pA G 0),(4,pA D 0),(13,.slice u a0.length P),(14,vI (a0.length : Int)),(15,vI (a : Int)),(16,.bool (decide ((a : Int) < (a0.length : Int))))]) [] [3,4,13,14,15,16] [1,2,3,4,5,6,20000,20001] (fun _ => by kernel_rfl) ?_
    intro _
    refine GS.seq ?_
    refine GS.cond (t := decide ((a : Int) < (a0.length : Int))) rfl rfl (fun br => absb br (drop_dec0 ay)) (fun _ => ?_)
    refine GS.exit rfl ?_
    refine GS.seq ?_
    refine bnd_elim hm (fun a9 bk hm => ?_)
    refine br_elim hm (fun be hm => ?_) (fun be hm => ?_)
    · skip
      refine bnd_elim hm (fun bc bs hm => ?_)
      refine GS.rg (fun _ => [(2,.bool bc)]) (fun _ => []) [(2,{ act := .call [3,4,5,6,20000,20001] (.bool a9) }),(3,{ sp := some (.bool true) }),(4,{ act := .call [] (.bool bc) })] [2] [] (fun _ => [CallOK Try.prog 21 #[pA G 0,pA D 0] (.bool a9) [some (.cells G 56 [.bool true,.pointer (sgp C none v),vI H]),some (.cells D 48 [.slice e c.length l,.slice j d.length m]),some (bag (sgs 59 nX59 C none v)),some (Ent.mine (nins nJ59 C v)),some (o5 e l c),some (o4 j m d)],((.bool a9) : Value) = .bool true,CallOK Try.prog 10 #[] (.bool bc) []]) (fun _ => by kernel_rfl) (fun _ => ⟨(by have h1 := w_tholelaw05_runs F G C v H D e l c j m d bk; exact h1.ok ⟨(.inl ⟨bag (sgs 59 nX59 C none v),(.tail _ (.tail _ (.head _))),Cov.chr⟩),(.inl ⟨Ent.mine (nins nJ59 C v),(.tail _ (.tail _ (.tail _ (.head _)))),Cov.mine⟩),(.inl ⟨.cells G 56 [.bool true,.pointer (sgp C none v),vI H],.head _,Cov.cells_rd⟩),(.inl ⟨o5 e l c,(.tail _ (.tail _ (.tail _ (.tail _ (.head _))))),Cov.osl_rd⟩),(.inl ⟨o4 j m d,(.tail _ (.tail _ (.tail _ (.tail _ (.tail _ (.head _)))))),Cov.osl_rd⟩),(.inl ⟨.cells D 48 [.slice e c.length l,.slice j d.length m],(.tail _ (.head _)),Cov.cells_rd⟩),trivial⟩),bool_eq be,(by have h1 := w_tholelaw05_lives F  bs; exact h1.ok trivial),trivial⟩) ?_
      intro _
      have hy := Option.some.inj hm
      subst hy
      refine GS.ret (fn := Try.f5) [0] [.bool bc] [] rfl Try.func5 (by kernel_rfl) trivial (fun w' hs => ?_)
      exact ⟨(),rfl,hs.turnedG (ks := []) rfl rfl⟩
    · skip
      refine GS.rg (fun _ => [(2,.bool false)]) (fun _ => []) [(2,{ act := .call [3,4,5,6,20000,20001] (.bool a9) }),(3,{ sp := some (.bool false) })] [2] [] (fun _ => [CallOK Try.prog 21 #[pA G 0,pA D 0] (.bool a9) [some (.cells G 56 [.bool true,.pointer (sgp C none v),vI H]),some (.cells D 48 [.slice e c.length l,.slice j d.length m]),some (bag (sgs 59 nX59 C none v)),some (Ent.mine (nins nJ59 C v)),some (o5 e l c),some (o4 j m d)],((.bool a9) : Value) = .bool false]) (fun _ => by kernel_rfl) (fun _ => ⟨(by have h1 := w_tholelaw05_runs F G C v H D e l c j m d bk; exact h1.ok ⟨(.inl ⟨bag (sgs 59 nX59 C none v),(.tail _ (.tail _ (.head _))),Cov.chr⟩),(.inl ⟨Ent.mine (nins nJ59 C v),(.tail _ (.tail _ (.tail _ (.head _)))),Cov.mine⟩),(.inl ⟨.cells G 56 [.bool true,.pointer (sgp C none v),vI H],.head _,Cov.cells_rd⟩),(.inl ⟨o5 e l c,(.tail _ (.tail _ (.tail _ (.tail _ (.head _))))),Cov.osl_rd⟩),(.inl ⟨o4 j m d,(.tail _ (.tail _ (.tail _ (.tail _ (.tail _ (.head _)))))),Cov.osl_rd⟩),(.inl ⟨.cells D 48 [.slice e c.length l,.slice j d.length m],(.tail _ (.head _)),Cov.cells_rd⟩),trivial⟩),bool_eq be,trivial⟩) ?_
      intro _
      have hy := Option.some.inj hm
      subst hy
      refine GS.ret (fn := Try.f5) [0] [.bool false] [] rfl Try.func5 (by kernel_rfl) trivial (fun w' hs => ?_)
      exact ⟨(),rfl,hs.turnedG (ks := []) rfl rfl⟩
  | cons o aw =>
    replace hm := (hst197 _ _ _ _).symm.trans hm
    try dsimp only at hm
    refine GS.seq ?_
    refine GS.rzM (fun _ => [(3,pA G 0),(4,pA D 0),(13,.slice u a0.length P),(14,vI (a0.length : Int)),(15,vI (a : Int)),(16,.bool (decide ((a : Int) < (a0.length : Int))))]) [] [3,4,13,14,15,16] [1,2,3,4,5,6,20000,20001] (fun _ => by kernel_rfl) ?_
    intro _
    refine GS.seq ?_
    refine GS.cond (t := decide ((a : Int) < (a0.length : Int))) rfl rfl (fun _ => ?_) (fun bt => absb (drop_dec ay) bt)
    refine GS.skip ?_
    refine GS.seq ?_
    refine GS.block ?_
    refine GS.seq ?_
    refine GS.know (p := o.Data.length ≤ ((b a) 0).2) (fun w hw => ((Cov.all_mem (nins_drop nJ37 b ay ((.tail _ (.head _))))).1 w (hw.ok 2 _ rfl)).1) (fun b4 => ?_)
    refine GS.setMem (mem' := [(1,.rd u 4 (nrows nR37 b a0)),(2,Ent.all (nins nJ37 b a0)),(3,.cells G 56 [.bool true,.pointer (sgp C none v),vI H]),(4,.cells D 48 [.slice e c.length l,.slice j d.length m]),(5,bag (sgs 59 nX59 C none v)),(6,Ent.mine (nins nJ59 C v)),(20000,o5 e l c),(20001,o4 j m d),(20002,r5 (((b a) 0).1) o.Data)]) (fun w hw => Sat.addCov (k0 := 2) hw rfl rfl rfl (Cov.all_mem (nins_drop nJ37 b ay (.head _))) rfl) ?_
    refine GS.rg (fun z => [(3,pA G 0),(4,pA D 0),(6,pA ((z 2).x) 0),(13,.slice u a0.length P),(14,vI (a0.length : Int)),(15,vI (a : Int))]) (fun z => [(1,.rd u 4 (nrows nR37 b a0)),(2,Ent.all (nins nJ37 b a0)),(3,.cells G 56 [.bool true,.pointer (sgp C none v),vI H]),(4,.cells D 48 [.slice e c.length l,.slice j d.length m]),(5,bag (sgs 59 nX59 C none v)),(6,Ent.mine (nins nJ59 C v)),(20000,o5 e l c),(20001,o4 j m d),(20002,r5 (((b a) 0).1) o.Data),(20003,.cells ((z 2).x) 37 [vI o.Kind,vI o.A,vI o.B,.slice (((b a) 0).1) o.Data.length (((b a) 0).2)])]) [(0,{ act := .idx 1 a }),(1,{ act := .load 1 a 0 [vI o.Kind,vI o.A,vI o.B,.slice (((b a) 0).1) o.Data.length (((b a) 0).2)] }),(2,{ act := .new .var,key := some 20003 }),(3,{ act := .store 0 0 [],key := some 20003 })] [3,4,6,13,14,15] [1,2,3,4,5,6,20000,20001,20002,20003] (fun z => [u = u,a0.length = (nrows nR37 b a0).length,((a : Int) : Int) = (a : Int),a < a0.length,blk u = blk u,offs u + a * 4 = offs u + (a * 4 + 0),(nrows nR37 b a0)[a]? = some [vI o.Kind,vI o.A,vI o.B,.slice (((b a) 0).1) o.Data.length (((b a) 0).2)],(z 2).x = (z 2).x,oC (.agg #[vI o.Kind,vI o.A,vI o.B,.slice (((b a) 0).1) o.Data.length (((b a) 0).2)])]) (fun z => by kernel_rfl) (fun z => ⟨rfl,(nrows_len nR37 b a0).symm,rfl,(drop_lt ay),rfl,rfl,nrows_drop nR37 b ay,rfl,rfl,trivial⟩) ?_
    intro z
    refine GS.seq ?_
    refine GS.seq ?_
    refine GS.rgM (fun _ => [(3,pA G 0),(4,pA D 0),(6,pA ((z 2).x) 0),(13,.slice u a0.length P),(14,vI (a0.length : Int)),(15,vI (a : Int)),(21,.bool (o.Kind == 4))]) [(1,{ act := .load 20003 0 0 [] })] [3,4,6,13,14,15,21] [1,2,3,4,5,6,20000,20001,20002,20003] (fun _ => [(z 2).x = (z 2).x]) (fun _ => by kernel_rfl) (fun _ => ⟨rfl,trivial⟩) ?_
    intro _
    refine jn_elim hm (fun bu bo hm => ?_)
    refine GS.cut (ι := Int × List S_extent_run × List UInt8 × List Bool × Nat × Nat × Hds × Option Addr × Nat × Option Addr × Nat) (I := fun ⟨ac,R,Y,ae,r,s,Z,al,af,am,an⟩ => bu (ac,R,Y,ae) = some y) (E := fun ⟨ac,R,Y,ae,r,s,Z,al,af,am,an⟩ => [(3,pA r 0),(4,pA s 0),(6,pA ((z 2).x) 0),(13,.slice u a0.length P),(14,vI (a0.length : Int)),(15,vI (a : Int))]) (M := fun ⟨ac,R,Y,ae,r,s,Z,al,af,am,an⟩ => [(1,.rd u 4 (nrows nR37 b a0)),(2,Ent.all (nins nJ37 b a0)),(20002,r5 (((b a) 0).1) o.Data),(20003,.cells ((z 2).x) 37 [vI o.Kind,vI o.A,vI o.B,.slice (((b a) 0).1) o.Data.length (((b a) 0).2)]),(20004,bag (sgs 59 nX59 Z none R)),(20005,Ent.mine (nins nJ59 Z R)),(20006,.cells r 56 [.bool true,.pointer (sgp Z none R),vI ac]),(20010,o5 al af Y),(20011,o4 am an ae),(20012,.cells s 48 [.slice al Y.length af,.slice am ae.length an])]) ?_ ?_
    rotate_left
    · intro bl
      refine GS.cond (t := o.Kind == 4) rfl rfl (fun bf => ?_) (fun bf => ?_)
      · replace hm := br_t bf hm
        refine GS.seq ?_
        refine GS.rzM (fun _ => [(3,pA G 0),(4,pA D 0),(6,pA ((z 2).x) 0),(7,pA G 0),(13,.slice u a0.length P),(14,vI (a0.length : Int)),(15,vI (a : Int))]) [] [3,4,6,7,13,14,15] [1,2,3,4,5,6,20000,20001,20002,20003] (fun _ => by kernel_rfl) ?_
        intro _
        refine GS.seq ?_
        refine bnd_elim hm (fun L bv hm => ?_)
        refine GS.open_ ?_
        refine GR.rM (i := 0) 1 (env' := fun _ => [(3,pA G 0),(4,pA D 0),(6,pA ((z 2).x) 0),(7,pA G 0),(13,.slice u a0.length P),(14,vI (a0.length : Int)),(15,vI (a : Int)),(23,pA G 0)]) (by kernel_rfl) (RunsTo.mk [] [3,4,6,7,13,14,15,23] [1,2,3,4,5,6,20000,20001,20002,20003] (fun _ => []) (fun _ => by kernel_rfl) (fun _ => trivial)) ?_
        intro _
        refine GR.callG (X := Nat × Hds) (i := 1) (g := 18) (ro := [Ent.all (sgs 59 nX59 C none v),Ent.all (nins nJ59 C v),.rd (some ⟨G,0,none⟩) 3 ([[.bool true,.pointer (sgp C none v),vI H]] : List (List Value))]) (mem' := fun ⟨ab,Q⟩ => [(1,.rd u 4 (nrows nR37 b a0)),(2,Ent.all (nins nJ37 b a0)),(3,.cells G 56 [.bool true,.pointer (sgp C none v),vI H]),(4,.cells D 48 [.slice e c.length l,.slice j d.length m]),(5,bag (sgs 59 nX59 C none v)),(6,Ent.mine (nins nJ59 C v)),(20000,o5 e l c),(20001,o4 j m d),(20002,r5 (((b a) 0).1) o.Data),(20003,.cells ((z 2).x) 37 [vI o.Kind,vI o.A,vI o.B,.slice (((b a) 0).1) o.Data.length (((b a) 0).2)]),(20004,bag (sgs 59 nX59 Q none L.1)),(20005,bag (nins nI59 Q L.1)),(20006,.cells ab 56 [.bool true,.pointer (sgp Q none L.1),vI L.2])]) (env' := fun ⟨ab,Q⟩ => [(3,pA G 0),(4,pA D 0),(6,pA ((z 2).x) 0),(7,pA G 0),(13,.slice u a0.length P),(14,vI (a0.length : Int)),(15,vI (a : Int)),(24,pA ab 0)]) [] [20004,20005,20006] [3,4,6,7,13,14,15,24] [1,2,3,4,5,6,20000,20001,20002,20003,20004,20005,20006] false (by kernel_rfl) (by kernel_rfl) (by kernel_rfl) (by kernel_rfl) (by kernel_rfl) (fun _ => rfl) (fun _ _ => rfl) ⟨(.inl ⟨5,_,rfl,rfl,Cov.chr,fun h => by cases h⟩),(.inl ⟨6,_,rfl,rfl,Cov.mine,fun h => by cases h⟩),(.inl ⟨3,_,rfl,rfl,Cov.cells_rd,fun h => by cases h⟩),trivial⟩ (by rintro ⟨ab,Q⟩; kernel_rfl) (by rintro ⟨ab,Q⟩; kernel_rfl) (w___extent_Map__Copy F G C v H bv) ?_
        rintro ⟨ab,Q⟩
        refine GR.setMem (mem' := [(1,.rd u 4 (nrows nR37 b a0)),(2,Ent.all (nins nJ37 b a0)),(3,.cells G 56 [.bool true,.pointer (sgp C none v),vI H]),(4,.cells D 48 [.slice e c.length l,.slice j d.length m]),(5,bag (sgs 59 nX59 C none v)),(6,Ent.mine (nins nJ59 C v)),(20000,o5 e l c),(20001,o4 j m d),(20002,r5 (((b a) 0).1) o.Data),(20003,.cells ((z 2).x) 37 [vI o.Kind,vI o.A,vI o.B,.slice (((b a) 0).1) o.Data.length (((b a) 0).2)]),(20004,bag (sgs 59 nX59 Q none L.1)),(20005,Ent.mine (nins nJ59 Q L.1)),(20006,.cells ab 56 [.bool true,.pointer (sgp Q none L.1),vI L.2])]) (fun w hw => own_cov (K := 20005) (K2 := 20005) [1,2,3,4,5,6,20000,20001,20002,20003,20004,20005,20006] hw rfl rfl (Cov.bag_mine (Cov.bag_all (nins_cov nC59 _ _))) (by kernel_rfl)) ?_
        refine GR.rM (i := 2) 1 (env' := fun _ => [(3,pA ab 0),(4,pA D 0),(6,pA ((z 2).x) 0),(7,pA G 0),(13,.slice u a0.length P),(14,vI (a0.length : Int)),(15,vI (a : Int))]) (by kernel_rfl) (RunsTo.mk [] [3,4,6,7,13,14,15] [1,2,3,4,5,6,20000,20001,20002,20003,20004,20005,20006] (fun _ => []) (fun _ => by kernel_rfl) (fun _ => trivial)) ?_
        intro _
        refine GR.dn (by kernel_rfl) ?_
        refine GS.seq ?_
        refine GS.seq ?_
        refine bnd_elim hm (fun az bw hm => ?_)
        refine GS.open_ ?_
        refine GR.ru (i := 0) 6 (env' := fun ai => [(3,pA ab 0),(4,pA D 0),(6,pA ((z 2).x) 0),(13,.slice u a0.length P),(14,vI (a0.length : Int)),(15,vI (a : Int)),(27,.bool false),(28,pA G 0),(30,.slice (some (Addr.mk (ai 4).x 0 none)) ([(122 : UInt8),(122 : UInt8)].length) 2)]) (mem' := fun ai => [(1,.rd u 4 (nrows nR37 b a0)),(2,Ent.all (nins nJ37 b a0)),(3,.cells G 56 [.bool true,.pointer (sgp C none v),vI H]),(4,.cells D 48 [.slice e c.length l,.slice j d.length m]),(5,bag (sgs 59 nX59 C none v)),(6,Ent.mine (nins nJ59 C v)),(20000,o5 e l c),(20001,o4 j m d),(20002,r5 (((b a) 0).1) o.Data),(20003,.cells ((z 2).x) 37 [vI o.Kind,vI o.A,vI o.B,.slice (((b a) 0).1) o.Data.length (((b a) 0).2)]),(20004,bag (sgs 59 nX59 Q none L.1)),(20005,Ent.mine (nins nJ59 Q L.1)),(20006,.cells ab 56 [.bool true,.pointer (sgp Q none L.1),vI L.2]),(20007,.osl (some (Addr.mk (ai 4).x 0 none)) 2 5 1 ([[.int .u8 122],[.int .u8 122]] : List (List Value)))]) (by kernel_rfl) (RunsTo.mk [(4,{ act := .new (.row 2 1),key := some 20007,spf := some (fun f => .slice (some (Addr.mk f.x 0 none)) ([(122 : UInt8),(122 : UInt8)].length) 2) }),(5,{ act := .markS,key := some 20007 })] [3,4,6,13,14,15,27,28,30] [1,2,3,4,5,6,20000,20001,20002,20003,20004,20005,20006,20007] (fun ai => [((.slice (some (Addr.mk (ai 4).x 0 none)) 2 2) : Value) = .slice (some (Addr.mk (ai 4).x 0 none)) ([(122 : UInt8),(122 : UInt8)].length) 2,(some (Addr.mk (ai 4).x 0 none)) = (some (Addr.mk (ai 4).x 0 none)),2 ≠ 0]) (fun ai => by kernel_rfl) (fun ai => ⟨rfl,rfl,(by decide),trivial⟩)) ?_
        intro ai
        refine GR.conv (mem' := [(1,.rd u 4 (nrows nR37 b a0)),(2,Ent.all (nins nJ37 b a0)),(3,.cells G 56 [.bool true,.pointer (sgp C none v),vI H]),(4,.cells D 48 [.slice e c.length l,.slice j d.length m]),(5,bag (sgs 59 nX59 C none v)),(6,Ent.mine (nins nJ59 C v)),(20000,o5 e l c),(20001,o4 j m d),(20002,r5 (((b a) 0).1) o.Data),(20003,.cells ((z 2).x) 37 [vI o.Kind,vI o.A,vI o.B,.slice (((b a) 0).1) o.Data.length (((b a) 0).2)]),(20004,bag (sgs 59 nX59 Q none L.1)),(20005,Ent.mine (nins nJ59 Q L.1)),(20006,.cells ab 56 [.bool true,.pointer (sgp Q none L.1),vI L.2]),(20007,o5 (some (Addr.mk (ai 4).x 0 none)) 2 [(122 : UInt8),(122 : UInt8)])]) rfl (congrArg (fun rr : List (List Value) => ([(1,.rd u 4 (nrows nR37 b a0)),(2,Ent.all (nins nJ37 b a0)),(3,.cells G 56 [.bool true,.pointer (sgp C none v),vI H]),(4,.cells D 48 [.slice e c.length l,.slice j d.length m]),(5,bag (sgs 59 nX59 C none v)),(6,Ent.mine (nins nJ59 C v)),(20000,o5 e l c),(20001,o4 j m d),(20002,r5 (((b a) 0).1) o.Data),(20003,.cells ((z 2).x) 37 [vI o.Kind,vI o.A,vI o.B,.slice (((b a) 0).1) o.Data.length (((b a) 0).2)]),(20004,bag (sgs 59 nX59 Q none L.1)),(20005,Ent.mine (nins nJ59 Q L.1)),(20006,.cells ab 56 [.bool true,.pointer (sgp Q none L.1),vI L.2]),(20007,.osl (some (Addr.mk (ai 4).x 0 none)) 2 5 1 rr)] : List (Nat × Ent))) (show ([[.int .u8 122],[.int .u8 122]] : List (List Value)) = List.map rB [(122 : UInt8),(122 : UInt8)] from rfl)) ?_
        refine GR.callB (X := Hds) (i := 6) (g := 9) (ro := []) (rb := [r5 (some (Addr.mk (ai 4).x 0 none)) [(122 : UInt8),(122 : UInt8)]]) (mem' := fun (ax : Hds) => [(1,.rd u 4 (nrows nR37 b a0)),(2,Ent.all (nins nJ37 b a0)),(3,.cells G 56 [.bool true,.pointer (sgp ax none az.2.1),vI az.2.2]),(4,.cells D 48 [.slice e c.length l,.slice j d.length m]),(20000,o5 e l c),(20001,o4 j m d),(20002,r5 (((b a) 0).1) o.Data),(20003,.cells ((z 2).x) 37 [vI o.Kind,vI o.A,vI o.B,.slice (((b a) 0).1) o.Data.length (((b a) 0).2)]),(20004,bag (sgs 59 nX59 Q none L.1)),(20005,Ent.mine (nins nJ59 Q L.1)),(20006,.cells ab 56 [.bool true,.pointer (sgp Q none L.1),vI L.2]),(20007,o5 (some (Addr.mk (ai 4).x 0 none)) 2 [(122 : UInt8),(122 : UInt8)]),(20008,bag (sgs 59 nX59 ax none az.2.1)),(20009,Ent.mine (nins nJ59 ax az.2.1))]) (env' := fun (ax : Hds) => [(3,pA ab 0),(4,pA D 0),(6,pA ((z 2).x) 0),(13,.slice u a0.length P),(14,vI (a0.length : Int)),(15,vI (a : Int)),(27,.bool false),(31,vI az.1)]) [5,3,6] [20008,20009,3] [3,4,6,13,14,15,27,31] [1,2,3,4,20000,20001,20002,20003,20004,20005,20006,20007,20008,20009] false (by kernel_rfl) (by kernel_rfl) (by kernel_rfl) (by kernel_rfl) (by kernel_rfl) (fun _ => rfl) (fun _ _ => rfl) trivial ⟨(.inl ⟨20007,_,rfl,rfl,Cov.osl_rd,fun h => by cases h⟩),trivial⟩ (by rintro ax; kernel_rfl) (by rintro ax; kernel_rfl) (CallB.grp (A := fun (ax : Hds) => [bag (sgs 59 nX59 ax none az.2.1)]) (B := fun (ax : Hds) => [.cells G 56 [.bool true,.pointer (sgp ax none az.2.1),vI az.2.2]]) (R' := fun (ax : Hds) => nins nJ59 ax az.2.1) (fun _ => rfl) (w___extent_Map__Write F G C v H 0 (some (Addr.mk (ai 4).x 0 none)) 2 [(122 : UInt8),(122 : UInt8)] bw)) ?_
        rintro ax
        refine GR.ru (i := 7) 2 (env' := fun _ => [(3,pA ab 0),(4,pA D 0),(6,pA ((z 2).x) 0),(13,.slice u a0.length P),(14,vI (a0.length : Int)),(15,vI (a : Int)),(33,.bool (az.1 != 0))]) (mem' := fun _ => [(1,.rd u 4 (nrows nR37 b a0)),(2,Ent.all (nins nJ37 b a0)),(4,.cells D 48 [.slice e c.length l,.slice j d.length m]),(20000,o5 e l c),(20001,o4 j m d),(20002,r5 (((b a) 0).1) o.Data),(20003,.cells ((z 2).x) 37 [vI o.Kind,vI o.A,vI o.B,.slice (((b a) 0).1) o.Data.length (((b a) 0).2)]),(20004,bag (sgs 59 nX59 Q none L.1)),(20005,Ent.mine (nins nJ59 Q L.1)),(20006,.cells ab 56 [.bool true,.pointer (sgp Q none L.1),vI L.2])]) (by kernel_rfl) (RunsTo.mk [] [3,4,6,13,14,15,33] [1,2,4,20000,20001,20002,20003,20004,20005,20006] (fun _ => []) (fun _ => by kernel_rfl) (fun _ => trivial)) ?_
        intro _
        refine GR.dn (by kernel_rfl) ?_
        refine GS.cond (t := az.1 != 0) rfl rfl (fun bg => ?_) (fun bg => ?_)
        · replace hm := br_t bg hm
          refine GS.seq ?_
          refine GS.rz (fun _ => [(2,.bool false)]) (fun _ => []) [] [2] [] (fun _ => by kernel_rfl) ?_
          intro _
          have hy := Option.some.inj hm
          subst hy
          refine GS.ret (fn := Try.f5) [0] [.bool false] [] rfl Try.func5 (by kernel_rfl) trivial (fun w' hs => ?_)
          exact ⟨(),rfl,hs.turnedG (ks := []) rfl rfl⟩
        · replace hm := br_f bg hm
          refine GS.skip ?_
          refine bnd_elim hm (fun av bx hm => ?_)
          refine GS.open_ ?_
          refine GR.rM (i := 0) 1 (env' := fun _ => [(3,pA ab 0),(4,pA D 0),(6,pA ((z 2).x) 0),(13,.slice u a0.length P),(14,vI (a0.length : Int)),(15,vI (a : Int)),(34,pA D 0)]) (by kernel_rfl) (RunsTo.mk [] [3,4,6,13,14,15,34] [1,2,4,20000,20001,20002,20003,20004,20005,20006] (fun _ => []) (fun _ => by kernel_rfl) (fun _ => trivial)) ?_
          intro _
          refine GR.callG (X := Nat × Option Addr × Nat × Option Addr × Nat) (i := 1) (g := 19) (ro := [r5 e c,r4 j d,.rd (some ⟨D,0,none⟩) 2 ([[.slice e c.length l,.slice j d.length m]] : List (List Value))]) (mem' := fun ⟨a1,a2,a3,a4,a5⟩ => [(1,.rd u 4 (nrows nR37 b a0)),(2,Ent.all (nins nJ37 b a0)),(4,.cells D 48 [.slice e c.length l,.slice j d.length m]),(20000,o5 e l c),(20001,o4 j m d),(20002,r5 (((b a) 0).1) o.Data),(20003,.cells ((z 2).x) 37 [vI o.Kind,vI o.A,vI o.B,.slice (((b a) 0).1) o.Data.length (((b a) 0).2)]),(20004,bag (sgs 59 nX59 Q none L.1)),(20005,Ent.mine (nins nJ59 Q L.1)),(20006,.cells ab 56 [.bool true,.pointer (sgp Q none L.1),vI L.2]),(20010,o5 a2 a3 av.1),(20011,o4 a4 a5 av.2),(20012,.cells a1 48 [.slice a2 av.1.length a3,.slice a4 av.2.length a5])]) (env' := fun ⟨a1,a2,a3,a4,a5⟩ => [(3,pA ab 0),(4,pA D 0),(6,pA ((z 2).x) 0),(13,.slice u a0.length P),(14,vI (a0.length : Int)),(15,vI (a : Int)),(35,pA a1 0)]) [] [20010,20011,20012] [3,4,6,13,14,15,35] [1,2,4,20000,20001,20002,20003,20004,20005,20006,20010,20011,20012] false (by kernel_rfl) (by kernel_rfl) (by kernel_rfl) (by kernel_rfl) (by kernel_rfl) (fun _ => rfl) (fun _ _ => rfl) ⟨(.inl ⟨20000,_,rfl,rfl,Cov.osl_rd,fun h => by cases h⟩),(.inl ⟨20001,_,rfl,rfl,Cov.osl_rd,fun h => by cases h⟩),(.inl ⟨4,_,rfl,rfl,Cov.cells_rd,fun h => by cases h⟩),trivial⟩ (by rintro ⟨a1,a2,a3,a4,a5⟩; kernel_rfl) (by rintro ⟨a1,a2,a3,a4,a5⟩; kernel_rfl) (w___tholeref05_Map__Copy_2 F D e l c j m d bx) ?_
          rintro ⟨a1,a2,a3,a4,a5⟩
          refine GR.ru (i := 2) 1 (env' := fun _ => [(3,pA ab 0),(4,pA a1 0),(6,pA ((z 2).x) 0),(13,.slice u a0.length P),(14,vI (a0.length : Int)),(15,vI (a : Int))]) (mem' := fun _ => [(1,.rd u 4 (nrows nR37 b a0)),(2,Ent.all (nins nJ37 b a0)),(20002,r5 (((b a) 0).1) o.Data),(20003,.cells ((z 2).x) 37 [vI o.Kind,vI o.A,vI o.B,.slice (((b a) 0).1) o.Data.length (((b a) 0).2)]),(20004,bag (sgs 59 nX59 Q none L.1)),(20005,Ent.mine (nins nJ59 Q L.1)),(20006,.cells ab 56 [.bool true,.pointer (sgp Q none L.1),vI L.2]),(20010,o5 a2 a3 av.1),(20011,o4 a4 a5 av.2),(20012,.cells a1 48 [.slice a2 av.1.length a3,.slice a4 av.2.length a5])]) (by kernel_rfl) (RunsTo.mk [] [3,4,6,13,14,15] [1,2,20002,20003,20004,20005,20006,20010,20011,20012] (fun _ => []) (fun _ => by kernel_rfl) (fun _ => trivial)) ?_
          intro _
          refine GR.dn (by kernel_rfl) ?_
          refine GS.rekey (env' := [(3,pA ab 0),(4,pA a1 0),(6,pA ((z 2).x) 0),(13,.slice u a0.length P),(14,vI (a0.length : Int)),(15,vI (a : Int))]) (mem' := [(1,.rd u 4 (nrows nR37 b a0)),(2,Ent.all (nins nJ37 b a0)),(20002,r5 (((b a) 0).1) o.Data),(20003,.cells ((z 2).x) 37 [vI o.Kind,vI o.A,vI o.B,.slice (((b a) 0).1) o.Data.length (((b a) 0).2)]),(20004,bag (sgs 59 nX59 Q none L.1)),(20005,Ent.mine (nins nJ59 Q L.1)),(20006,.cells ab 56 [.bool true,.pointer (sgp Q none L.1),vI L.2]),(20010,o5 a2 a3 av.1),(20011,o4 a4 a5 av.2),(20012,.cells a1 48 [.slice a2 av.1.length a3,.slice a4 av.2.length a5])]) [3,4,6,13,14,15] [(1,1),(2,2),(20002,20002),(20003,20003),(20004,20004),(20005,20005),(20006,20006),(20010,20010),(20011,20011),(20012,20012)] (by kernel_rfl) (by kernel_rfl) rfl ?_
          exact bl ⟨L.2,L.1,av.1,av.2,ab,a1,Q,a2,a3,a4,a5⟩ hm
      · replace hm := br_f bf hm
        refine GS.skip ?_
        refine GS.rekey (env' := [(3,pA G 0),(4,pA D 0),(6,pA ((z 2).x) 0),(13,.slice u a0.length P),(14,vI (a0.length : Int)),(15,vI (a : Int))]) (mem' := [(1,.rd u 4 (nrows nR37 b a0)),(2,Ent.all (nins nJ37 b a0)),(3,.cells G 56 [.bool true,.pointer (sgp C none v),vI H]),(4,.cells D 48 [.slice e c.length l,.slice j d.length m]),(5,bag (sgs 59 nX59 C none v)),(6,Ent.mine (nins nJ59 C v)),(20000,o5 e l c),(20001,o4 j m d),(20002,r5 (((b a) 0).1) o.Data),(20003,.cells ((z 2).x) 37 [vI o.Kind,vI o.A,vI o.B,.slice (((b a) 0).1) o.Data.length (((b a) 0).2)])]) [3,4,6,13,14,15] [(1,1),(2,2),(3,3),(4,4),(5,5),(6,6),(20000,20000),(20001,20001),(20002,20002),(20003,20003)] (by kernel_rfl) (by kernel_rfl) rfl ?_
        refine GS.rekey (env' := [(3,pA G 0),(4,pA D 0),(6,pA ((z 2).x) 0),(13,.slice u a0.length P),(14,vI (a0.length : Int)),(15,vI (a : Int))]) (mem' := [(1,.rd u 4 (nrows nR37 b a0)),(2,Ent.all (nins nJ37 b a0)),(20002,r5 (((b a) 0).1) o.Data),(20003,.cells ((z 2).x) 37 [vI o.Kind,vI o.A,vI o.B,.slice (((b a) 0).1) o.Data.length (((b a) 0).2)]),(20004,bag (sgs 59 nX59 C none v)),(20005,Ent.mine (nins nJ59 C v)),(20006,.cells G 56 [.bool true,.pointer (sgp C none v),vI H]),(20010,o5 e l c),(20011,o4 j m d),(20012,.cells D 48 [.slice e c.length l,.slice j d.length m])]) [3,4,6,13,14,15] [(1,1),(2,2),(20002,20002),(20003,20003),(20004,5),(20005,6),(20006,3),(20010,20000),(20011,20001),(20012,4)] (by kernel_rfl) (by kernel_rfl) rfl ?_
        exact bl ⟨H,v,c,d,G,D,C,e,l,j,m⟩ hm
    · rintro ⟨ac,R,Y,ae,r,s,Z,al,af,am,an⟩ hm
      replace hm := (bo _).symm.trans hm
      try dsimp only at hm
      refine GS.seq ?_
      refine jn_elim hm (fun bz bp hm => ?_)
      refine GS.cut (ι := Bool × Int × List S_extent_run × List UInt8 × List Bool × Hds × Option Addr × Nat × Option Addr × Nat) (I := fun ⟨a7,ad,U,ag,ah,aa,ao,ap,aq,ar⟩ => bz (a7,ad,U,ag,ah) = some y) (E := fun ⟨a7,ad,U,ag,ah,aa,ao,ap,aq,ar⟩ => [(3,pA r 0),(4,pA s 0),(13,.slice u a0.length P),(14,vI (a0.length : Int)),(15,vI (a : Int)),(60,.bool a7)]) (M := fun ⟨a7,ad,U,ag,ah,aa,ao,ap,aq,ar⟩ => [(1,.rd u 4 (nrows nR37 b a0)),(2,Ent.all (nins nJ37 b a0)),(20006,.cells r 56 [.bool true,.pointer (sgp aa none U),vI ad]),(20012,.cells s 48 [.slice ao ag.length ap,.slice aq ah.length ar]),(20013,bag (sgs 59 nX59 aa none U)),(20014,Ent.mine (nins nJ59 aa U)),(20015,o5 ao ap ag),(20016,o4 aq ar ah)]) ?_ ?_
      rotate_left
      · intro bh
        refine bnd_elim hm (fun n b0 hm => ?_)
        refine GS.know (p := Y.length ≤ af) (fun w hw => by first | (have h := (hw.ok 20010 _ rfl).1.1; rw [List.length_map] at h; exact h) | (have h := (hw.ok 20010 _ rfl).1.1; rw [nrows_len] at h; exact h) | simpa using (hw.ok 20010 _ rfl).1.1) (fun b1 => ?_)
        refine GS.regionMid 3 22 (env' := fun _ => [(3,pA r 0),(4,pA s 0),(13,.slice u a0.length P),(14,vI (a0.length : Int)),(15,vI (a : Int)),(36,pA r 0),(37,pA s 0),(38,.agg #[vI o.Kind,vI o.A,vI o.B,.slice (((b a) 0).1) o.Data.length (((b a) 0).2)])]) (mem' := fun _ => [(1,.rd u 4 (nrows nR37 b a0)),(2,Ent.all (nins nJ37 b a0)),(20002,r5 (((b a) 0).1) o.Data),(20004,bag (sgs 59 nX59 Z none R)),(20005,Ent.mine (nins nJ59 Z R)),(20006,.cells r 56 [.bool true,.pointer (sgp Z none R),vI ac]),(20010,o5 al af Y),(20011,o4 am an ae),(20012,.cells s 48 [.slice al Y.length af,.slice am ae.length an])]) [(2,{ act := .load 20003 0 0 [] })] [3,4,13,14,15,36,37,38] [1,2,20002,20004,20005,20006,20010,20011,20012] (fun _ => [(z 2).x = (z 2).x]) (by kernel_rfl) (by kernel_rfl) (by kernel_rfl) (by kernel_rfl) (fun _ => by kernel_rfl) (fun _ => ⟨rfl,trivial⟩) ?_
        intro _
        refine GA.callG (X := Hds × Option Addr × Nat × Option Addr × Nat) (i := 3) (g := 20) (ro := [r5 (((b a) 0).1) o.Data]) (mem' := fun ⟨O,V,W,aj,ak⟩ => [(1,.rd u 4 (nrows nR37 b a0)),(2,Ent.all (nins nJ37 b a0)),(20002,r5 (((b a) 0).1) o.Data),(20006,.cells r 56 [.bool true,.pointer (sgp O none n.2.1),vI n.2.2.1]),(20012,.cells s 48 [.slice V n.2.2.2.1.length W,.slice aj n.2.2.2.2.length ak]),(20013,bag (sgs 59 nX59 O none n.2.1)),(20014,Ent.mine (nins nJ59 O n.2.1)),(20015,o5 V W n.2.2.2.1),(20016,o4 aj ak n.2.2.2.2)]) (env' := fun ⟨O,V,W,aj,ak⟩ => [(3,pA r 0),(4,pA s 0),(13,.slice u a0.length P),(14,vI (a0.length : Int)),(15,vI (a : Int)),(39,.bool n.1)]) [20004,20005,20006,20010,20011,20012] [20013,20014,20006,20015,20016,20012] [3,4,13,14,15,39] [1,2,20002,20006,20012,20013,20014,20015,20016] false (by kernel_rfl) (by kernel_rfl) (by kernel_rfl) (by kernel_rfl) (by kernel_rfl) (by kernel_rfl) (fun _ => rfl) (fun _ _ => rfl) ⟨(.inl ⟨20002,_,rfl,rfl,Cov.refl _,fun h => by cases h⟩),trivial⟩ (by rintro ⟨O,V,W,aj,ak⟩; kernel_rfl) (by rintro ⟨O,V,W,aj,ak⟩; kernel_rfl) (w_tholelaw05_act F r Z R ac s al af Y am an ae o.Kind o.A o.B (((b a) 0).1) (((b a) 0).2) o.Data b1 b0) ?_
        rintro ⟨O,V,W,aj,ak⟩
        refine br_elim hm (fun bd hm => ?_) (fun bd hm => ?_)
        · skip
          refine GA.rest (i := 4) (env' := fun _ => [(3,pA r 0),(4,pA s 0),(13,.slice u a0.length P),(14,vI (a0.length : Int)),(15,vI (a : Int)),(60,.bool true)]) (mem' := fun _ => [(1,.rd u 4 (nrows nR37 b a0)),(2,Ent.all (nins nJ37 b a0)),(20006,.cells r 56 [.bool true,.pointer (sgp O none n.2.1),vI n.2.2.1]),(20012,.cells s 48 [.slice V n.2.2.2.1.length W,.slice aj n.2.2.2.2.length ak]),(20013,bag (sgs 59 nX59 O none n.2.1)),(20014,Ent.mine (nins nJ59 O n.2.1)),(20015,o5 V W n.2.2.2.1),(20016,o4 aj ak n.2.2.2.2)]) [(5,{ sp := some (.bool true) })] [3,4,13,14,15,60] [1,2,20006,20012,20013,20014,20015,20016] (fun _ => [((.bool (!n.1)) : Value) = .bool true]) (by kernel_rfl) (fun _ => by kernel_rfl) (fun _ => ⟨bool_eq bd,trivial⟩) ?_
          intro _
          refine GS.rekey (env' := [(3,pA r 0),(4,pA s 0),(13,.slice u a0.length P),(14,vI (a0.length : Int)),(15,vI (a : Int)),(60,.bool true)]) (mem' := [(1,.rd u 4 (nrows nR37 b a0)),(2,Ent.all (nins nJ37 b a0)),(20006,.cells r 56 [.bool true,.pointer (sgp O none n.2.1),vI n.2.2.1]),(20012,.cells s 48 [.slice V n.2.2.2.1.length W,.slice aj n.2.2.2.2.length ak]),(20013,bag (sgs 59 nX59 O none n.2.1)),(20014,Ent.mine (nins nJ59 O n.2.1)),(20015,o5 V W n.2.2.2.1),(20016,o4 aj ak n.2.2.2.2)]) [3,4,13,14,15,60] [(1,1),(2,2),(20006,20006),(20012,20012),(20013,20013),(20014,20014),(20015,20015),(20016,20016)] (by kernel_rfl) (by kernel_rfl) rfl ?_
          exact bh ⟨true,n.2.2.1,n.2.1,n.2.2.2.1,n.2.2.2.2,O,V,W,aj,ak⟩ hm
        · skip
          refine bnd_elim hm (fun ba bm hm => ?_)
          refine br_elim hm (fun bi hm => ?_) (fun bi hm => ?_)
          · skip
            refine GA.rest (i := 4) (env' := fun _ => [(3,pA r 0),(4,pA s 0),(13,.slice u a0.length P),(14,vI (a0.length : Int)),(15,vI (a : Int)),(60,.bool true)]) (mem' := fun _ => [(1,.rd u 4 (nrows nR37 b a0)),(2,Ent.all (nins nJ37 b a0)),(20006,.cells r 56 [.bool true,.pointer (sgp O none n.2.1),vI n.2.2.1]),(20012,.cells s 48 [.slice V n.2.2.2.1.length W,.slice aj n.2.2.2.2.length ak]),(20013,bag (sgs 59 nX59 O none n.2.1)),(20014,Ent.mine (nins nJ59 O n.2.1)),(20015,o5 V W n.2.2.2.1),(20016,o4 aj ak n.2.2.2.2)]) [(5,{ sp := some (.bool false) }),(7,{ act := .call [20006] (vI ba) }),(11,{ act := .load 20012 0 0 [] }),(15,{ sp := some (.bool true) })] [3,4,13,14,15,60] [1,2,20006,20012,20013,20014,20015,20016] (fun _ => [((.bool (!n.1)) : Value) = .bool false,CallOK Try.prog 15 #[pA r 0] (vI ba) [some (.cells r 56 [.bool true,.pointer (sgp O none n.2.1),vI n.2.2.1])],s = s,((.bool (ba != (n.2.2.2.1.length : Int))) : Value) = .bool true]) (by kernel_rfl) (fun _ => by kernel_rfl) (fun _ => ⟨bool_eq bd,(by have h1 := w___extent_Map__Size F r (.pointer (sgp O none n.2.1)) n.2.2.1 bm; exact h1.ok ⟨(.inl ⟨.cells r 56 [.bool true,.pointer (sgp O none n.2.1),vI n.2.2.1],.head _,Cov.cells_rd⟩),trivial⟩),rfl,bool_eq bi,trivial⟩) ?_
            intro _
            refine GS.rekey (env' := [(3,pA r 0),(4,pA s 0),(13,.slice u a0.length P),(14,vI (a0.length : Int)),(15,vI (a : Int)),(60,.bool true)]) (mem' := [(1,.rd u 4 (nrows nR37 b a0)),(2,Ent.all (nins nJ37 b a0)),(20006,.cells r 56 [.bool true,.pointer (sgp O none n.2.1),vI n.2.2.1]),(20012,.cells s 48 [.slice V n.2.2.2.1.length W,.slice aj n.2.2.2.2.length ak]),(20013,bag (sgs 59 nX59 O none n.2.1)),(20014,Ent.mine (nins nJ59 O n.2.1)),(20015,o5 V W n.2.2.2.1),(20016,o4 aj ak n.2.2.2.2)]) [3,4,13,14,15,60] [(1,1),(2,2),(20006,20006),(20012,20012),(20013,20013),(20014,20014),(20015,20015),(20016,20016)] (by kernel_rfl) (by kernel_rfl) rfl ?_
            exact bh ⟨true,n.2.2.1,n.2.1,n.2.2.2.1,n.2.2.2.2,O,V,W,aj,ak⟩ hm
          · skip
            refine bnd_elim hm (fun a8 b2 hm => ?_)
            refine bnd_elim hm (fun bb b3 hm => ?_)
            refine GA.rest (i := 4) (env' := fun au => [(3,pA r 0),(4,pA s 0),(13,.slice u a0.length P),(14,vI (a0.length : Int)),(15,vI (a : Int)),(60,.bool (!bb))]) (mem' := fun au => [(1,.rd u 4 (nrows nR37 b a0)),(2,Ent.all (nins nJ37 b a0)),(20006,.cells r 56 [.bool true,.pointer (sgp O none n.2.1),vI n.2.2.1]),(20012,.cells s 48 [.slice V n.2.2.2.1.length W,.slice aj n.2.2.2.2.length ak]),(20013,bag (sgs 59 nX59 O none n.2.1)),(20014,Ent.mine (nins nJ59 O n.2.1)),(20015,o5 V W n.2.2.2.1),(20016,o4 aj ak n.2.2.2.2)]) [(5,{ sp := some (.bool false) }),(7,{ act := .call [20006] (vI ba) }),(11,{ act := .load 20012 0 0 [] }),(15,{ sp := some (.bool false) }),(17,{ act := .calln [20006,20013,20014] (fun f => .slice f.ob a8.length f.cap) (fun f => o5 f.ob f.cap a8),key := some 20017 }),(21,{ act := .load 20012 0 0 [] }),(22,{ act := .call [20015,20017] (.bool bb) })] [3,4,13,14,15,60] [1,2,20006,20012,20013,20014,20015,20016] (fun au => [((.bool (!n.1)) : Value) = .bool false,CallOK Try.prog 15 #[pA r 0] (vI ba) [some (.cells r 56 [.bool true,.pointer (sgp O none n.2.1),vI n.2.2.1])],s = s,((.bool (ba != (n.2.2.2.1.length : Int))) : Value) = .bool false,CallN Try.prog 17 #[pA r 0] (fun f => .slice f.ob a8.length f.cap) (fun f => o5 f.ob f.cap a8) [some (.cells r 56 [.bool true,.pointer (sgp O none n.2.1),vI n.2.2.1]),some (bag (sgs 59 nX59 O none n.2.1)),some (Ent.mine (nins nJ59 O n.2.1))],s = s,CallOK Try.prog 12 #[.slice ((au 17).ob) a8.length ((au 17).cap),.slice V n.2.2.2.1.length W] (.bool bb) [some (o5 V W n.2.2.2.1),some (o5 ((au 17).ob) ((au 17).cap) a8)]]) (by kernel_rfl) (fun au => by kernel_rfl) (fun au => ⟨bool_eq bd,(by have h1 := w___extent_Map__Size F r (.pointer (sgp O none n.2.1)) n.2.2.1 bm; exact h1.ok ⟨(.inl ⟨.cells r 56 [.bool true,.pointer (sgp O none n.2.1),vI n.2.2.1],.head _,Cov.cells_rd⟩),trivial⟩),rfl,bool_eq bi,(by have h1 := w___extent_Map__Bytes F r O n.2.1 n.2.2.1 b2; exact CallG.toN h1 ⟨(.inl ⟨bag (sgs 59 nX59 O none n.2.1),(.tail _ (.head _)),Cov.chr⟩),(.inl ⟨Ent.mine (nins nJ59 O n.2.1),(.tail _ (.tail _ (.head _))),Cov.mine⟩),(.inl ⟨.cells r 56 [.bool true,.pointer (sgp O none n.2.1),vI n.2.2.1],.head _,Cov.cells_rd⟩),trivial⟩),rfl,(by have h1 := w_tholeref01_Same F ((au 17).ob) ((au 17).cap) a8 V W n.2.2.2.1 b3; exact h1.ok ⟨(.inl ⟨o5 ((au 17).ob) ((au 17).cap) a8,(.tail _ (.head _)),Cov.osl_rd⟩),(.inl ⟨o5 V W n.2.2.2.1,.head _,Cov.osl_rd⟩),trivial⟩),trivial⟩) ?_
            intro au
            refine GS.rekey (env' := [(3,pA r 0),(4,pA s 0),(13,.slice u a0.length P),(14,vI (a0.length : Int)),(15,vI (a : Int)),(60,.bool (!bb))]) (mem' := [(1,.rd u 4 (nrows nR37 b a0)),(2,Ent.all (nins nJ37 b a0)),(20006,.cells r 56 [.bool true,.pointer (sgp O none n.2.1),vI n.2.2.1]),(20012,.cells s 48 [.slice V n.2.2.2.1.length W,.slice aj n.2.2.2.2.length ak]),(20013,bag (sgs 59 nX59 O none n.2.1)),(20014,Ent.mine (nins nJ59 O n.2.1)),(20015,o5 V W n.2.2.2.1),(20016,o4 aj ak n.2.2.2.2)]) [3,4,13,14,15,60] [(1,1),(2,2),(20006,20006),(20012,20012),(20013,20013),(20014,20014),(20015,20015),(20016,20016)] (by kernel_rfl) (by kernel_rfl) rfl ?_
            exact bh ⟨(!bb),n.2.2.1,n.2.1,n.2.2.2.1,n.2.2.2.2,O,V,W,aj,ak⟩ hm
      · rintro ⟨a7,ad,U,ag,ah,aa,ao,ap,aq,ar⟩ hm
        replace hm := (bp _).symm.trans hm
        try dsimp only at hm
        refine GS.cond (t := a7) rfl rfl (fun bj => ?_) (fun bj => ?_)
        · replace hm := br_t bj hm
          refine GS.seq ?_
          refine GS.rz (fun _ => [(2,.bool false)]) (fun _ => []) [] [2] [] (fun _ => by kernel_rfl) ?_
          intro _
          have hy := Option.some.inj hm
          subst hy
          refine GS.ret (fn := Try.f5) [0] [.bool false] [] rfl Try.func5 (by kernel_rfl) trivial (fun w' hs => ?_)
          exact ⟨(),rfl,hs.turnedG (ks := []) rfl rfl⟩
        · replace hm := br_f bj hm
          refine GS.skip ?_
          refine GS.inBlock ?_
          refine GS.rgM (fun _ => [(3,pA r 0),(4,pA s 0),(13,.slice u a0.length P),(14,vI (a0.length : Int)),(15,vI ((a + 1 : Nat) : Int))]) [(0,{ sp := some (vI ((a + 1 : Nat) : Int)) })] [3,4,13,14,15] [1,2,20006,20012,20013,20014,20015,20016] (fun _ => [((vI (IntKind.i64.wrap ((a : Int) + 1))) : Value) = vI ((a + 1 : Nat) : Int)]) (fun _ => by kernel_rfl) (fun _ => ⟨natw (drop_lt ay) bq,trivial⟩) ?_
          intro _
          refine GS.inLoop ?_
          refine GS.rekey (env' := [(3,pA r 0),(4,pA s 0),(13,.slice u a0.length P),(14,vI (a0.length : Int)),(15,vI ((a + 1 : Nat) : Int))]) (mem' := [(1,.rd u 4 (nrows nR37 b a0)),(2,Ent.all (nins nJ37 b a0)),(3,.cells r 56 [.bool true,.pointer (sgp aa none U),vI ad]),(4,.cells s 48 [.slice ao ag.length ap,.slice aq ah.length ar]),(5,bag (sgs 59 nX59 aa none U)),(6,Ent.mine (nins nJ59 aa U)),(20000,o5 ao ap ag),(20001,o4 aq ar ah)]) [3,4,13,14,15] [(1,1),(2,2),(3,20006),(4,20012),(5,20013),(6,20014),(20000,20015),(20001,20016)] (by kernel_rfl) (by kernel_rfl) rfl ?_
          exact bn ⟨aw,a + 1,ad,U,ag,ah,r,s,aa,ao,ap,aq,ar⟩ ⟨drop_next ay,hm⟩ (Nat.lt_succ_self _)

end Go.Proofs.Ytmdfkklldbfocaa
