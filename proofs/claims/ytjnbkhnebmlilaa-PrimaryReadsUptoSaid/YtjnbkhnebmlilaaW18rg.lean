/-
 CHAPTER 18r: the functions do what their models say (7).
-/
import Derived.Test.YtjnbkhnebmlilaaE18r
import Derived.Test.YtjnbkhnebmlilaaW18re
import Derived.Test.YtjnbkhnebmlilaaW18rf
set_option linter.unusedVariables false
set_option linter.unusedSimpArgs false
set_option maxRecDepth 100000
set_option maxHeartbeats 8000000
namespace Go.Proofs.Ytjnbkhnebmlilaa
open Go Go.RowKit Sx

theorem w_primary_New_2 (F : Nat) (G H a1 a2 a3 : Int) (d : Option Addr) (A : Nat) (a4 : List Int) (J K L : Int) (a : Option Addr) (p : Nat) (h : List S_api_Entry) (b : Option Addr) (q : Nat) (i : List S_api_Last) (c : Option Addr) (r : Nat) (j : List S_api_Item) {y : Nat × Unit × (List Int × Int × Int × Int × List S_api_Entry × List S_api_Last × List S_api_Item) × (Int × Int × Int × List S_api_Entry × List S_api_Last × List S_api_Item)} (hm : m_primary_New_2 F G H a1 a2 a3 a4 J K L h i j = some y) : CallG Try.prog 6 #[.agg #[vI G,vI H],vI a1,vI a2,vI a3,.slice d a4.length A,.agg ((kc43 J K L a h.length p b i.length q c j.length r)).toArray] (X := Unit × (Nat × Option Addr × Nat × Option Addr × Nat × Option Addr × Nat × Option Addr × Nat) × (Nat × Option Addr × Nat × Option Addr × Nat × Option Addr × Nat)) (fun (x : Unit × (Nat × Option Addr × Nat × Option Addr × Nat × Option Addr × Nat × Option Addr × Nat) × (Nat × Option Addr × Nat × Option Addr × Nat × Option Addr × Nat)) => bif y.1 == 0 then (fun ⟨_,_,_⟩ => .tuple #[.pointer none,vI 22] : Unit × (Nat × Option Addr × Nat × Option Addr × Nat × Option Addr × Nat × Option Addr × Nat) × (Nat × Option Addr × Nat × Option Addr × Nat × Option Addr × Nat) → Value) x else bif y.1 == 1 then (fun ⟨_,⟨x0,x1,x2,x3,x4,x5,x6,x7,x8⟩,_⟩ => .tuple #[pA x0 0,vI 0] : Unit × (Nat × Option Addr × Nat × Option Addr × Nat × Option Addr × Nat × Option Addr × Nat) × (Nat × Option Addr × Nat × Option Addr × Nat × Option Addr × Nat) → Value) x else (fun ⟨_,_,⟨x0,x1,x2,x3,x4,x5,x6⟩⟩ => .tuple #[pA x0 0,vI 0] : Unit × (Nat × Option Addr × Nat × Option Addr × Nat × Option Addr × Nat × Option Addr × Nat) × (Nat × Option Addr × Nat × Option Addr × Nat × Option Addr × Nat) → Value) x) [] [r3 d a4,r52 a h,r80 b i,r76 c j] (fun (x : Unit × (Nat × Option Addr × Nat × Option Addr × Nat × Option Addr × Nat × Option Addr × Nat) × (Nat × Option Addr × Nat × Option Addr × Nat × Option Addr × Nat)) => bif y.1 == 0 then (fun ⟨_,_,_⟩ => [] : Unit × (Nat × Option Addr × Nat × Option Addr × Nat × Option Addr × Nat × Option Addr × Nat) × (Nat × Option Addr × Nat × Option Addr × Nat × Option Addr × Nat) → List Ent) x else bif y.1 == 1 then (fun ⟨_,⟨x0,x1,x2,x3,x4,x5,x6,x7,x8⟩,_⟩ => [o3 x1 x2 y.2.2.1.1,o52 x3 x4 y.2.2.1.2.2.2.2.1,o80 x5 x6 y.2.2.1.2.2.2.2.2.1,o76 x7 x8 y.2.2.1.2.2.2.2.2.2,.cells x0 69 (kc47 G H a1 a2 a3 x1 y.2.2.1.1.length x2 y.2.2.1.2.1 y.2.2.1.2.2.1 y.2.2.1.2.2.2.1 x3 y.2.2.1.2.2.2.2.1.length x4 x5 y.2.2.1.2.2.2.2.2.1.length x6 x7 y.2.2.1.2.2.2.2.2.2.length x8)] : Unit × (Nat × Option Addr × Nat × Option Addr × Nat × Option Addr × Nat × Option Addr × Nat) × (Nat × Option Addr × Nat × Option Addr × Nat × Option Addr × Nat) → List Ent) x else (fun ⟨_,_,⟨x0,x1,x2,x3,x4,x5,x6⟩⟩ => [o52 x1 x2 y.2.2.2.2.2.2.1,o80 x3 x4 y.2.2.2.2.2.2.2.1,o76 x5 x6 y.2.2.2.2.2.2.2.2,.cells x0 69 (kc48 G H a1 a2 a3 y.2.2.2.1 y.2.2.2.2.1 y.2.2.2.2.2.1 x1 y.2.2.2.2.2.2.1.length x2 x3 y.2.2.2.2.2.2.2.1.length x4 x5 y.2.2.2.2.2.2.2.2.length x6)] : Unit × (Nat × Option Addr × Nat × Option Addr × Nat × Option Addr × Nat × Option Addr × Nat) × (Nat × Option Addr × Nat × Option Addr × Nat × Option Addr × Nat) → List Ent) x) := by
 intro w hg
 rw [m_primary_New_2] at hm
 refine GS.start (S := mayT [] [r3 d a4,r52 a h,r80 b i,r76 c j]) (mem := [(1,r3 d a4),(2,r52 a h),(3,r80 b i),(4,r76 c j)]) Try.func6 rfl Try.ntmps6 (Nat.le_of_ble_eq_true rfl) (hg.start rfl) ?_
 refine GS.conv (env' := [(0,.agg #[vI G,vI H]),(1,vI a1),(2,vI a2),(3,vI a3),(4,.slice d a4.length A),(5,.agg ((kc43 J K L a h.length p b i.length q c j.length r)).toArray)]) rfl rfl ?_
 refine GS.seq ?_
 refine GS.tz (fun e => [(1,vI a1),(2,vI a2),(3,vI a3),(4,.slice d a4.length A),(6,pA ((e 0).x) 0),(11,pA ((e 1).x) 0)]) (fun e => [(1,r3 d a4),(2,r52 a h),(3,r80 b i),(4,r76 c j),(5,.cells ((e 0).x) 23 [vI G,vI H]),(6,.cells ((e 1).x) 31 (kc43 J K L a h.length p b i.length q c j.length r))]) [(0,{ act := .new .var,key := some 5 }),(1,{ act := .new .var,key := some 6 })] ?_
 intro e
 refine GS.seq ?_
 refine GS.seq ?_
 refine jn_elim hm (fun J8 ac hm => ?_)
 refine GS.cut (ι := Bool) (I := fun (U : Bool) => J8 U = some y) (E := fun (U : Bool) => [(1,vI a1),(2,vI a2),(3,vI a3),(4,.slice d a4.length A),(6,pA ((e 0).x) 0),(11,pA ((e 1).x) 0),(25,.bool U)]) (M := fun (U : Bool) => [(1,r3 d a4),(2,r52 a h),(3,r80 b i),(4,r76 c j),(5,.cells ((e 0).x) 23 [vI G,vI H]),(6,.cells ((e 1).x) 31 (kc43 J K L a h.length p b i.length q c j.length r))]) ?_ ?_
 rotate_left
 ·intro H9
  refine bnd_elim hm (fun y3 e4 hm => ?_)
  refine br_elim hm (fun h5 hm => ?_) (fun h5 hm => ?_)
  ·skip
   refine GS.tgM (fun _ => [(1,vI a1),(2,vI a2),(3,vI a3),(4,.slice d a4.length A),(6,pA ((e 0).x) 0),(11,pA ((e 1).x) 0),(25,.bool true)]) [(2,{ act := .call [1] (.bool y3) }),(4,{ sp := some (.bool true) })] (fun _ => [CallOK Try.prog 9 #[.slice d a4.length A,vI a2] (.bool y3) [some (r3 d a4)],((.bool (!y3)) : Value) = .bool true]) (fun _ => ⟨(by have h1 := w_slices_Contains___int_int__2 F d A a4 a2 e4; exact h1.ok ⟨(.inl ⟨r3 d a4,.head _,Cov.refl _⟩),trivial⟩),bool_eq h5,trivial⟩) ?_
   intro _
   refine GS.rekey (env' := [(1,vI a1),(2,vI a2),(3,vI a3),(4,.slice d a4.length A),(6,pA ((e 0).x) 0),(11,pA ((e 1).x) 0),(25,.bool true)]) (mem' := [(1,r3 d a4),(2,r52 a h),(3,r80 b i),(4,r76 c j),(5,.cells ((e 0).x) 23 [vI G,vI H]),(6,.cells ((e 1).x) 31 (kc43 J K L a h.length p b i.length q c j.length r))]) [1,2,3,4,6,11,25] [(1,1),(2,2),(3,3),(4,4),(5,5),(6,6)] (by kernel_rfl) (by kernel_rfl) rfl ?_
   exact H9 true hm
  ·skip
   refine bnd_elim hm (fun y6 e7 hm => ?_)
   refine GS.tgM (fun _ => [(1,vI a1),(2,vI a2),(3,vI a3),(4,.slice d a4.length A),(6,pA ((e 0).x) 0),(11,pA ((e 1).x) 0),(25,.bool (y6 != 0))]) [(2,{ act := .call [1] (.bool y3) }),(4,{ sp := some (.bool false) }),(5,{ act := .load 6 0 0 [] }),(6,{ act := .call [2,3,4] (vI y6) })] (fun _ => [CallOK Try.prog 9 #[.slice d a4.length A,vI a2] (.bool y3) [some (r3 d a4)],((.bool (!y3)) : Value) = .bool false,(e 1).x = (e 1).x,CallOK Try.prog 10 #[.agg ((kc43 J K L a h.length p b i.length q c j.length r)).toArray] (vI y6) [some (r52 a h),some (r80 b i),some (r76 c j)]]) (fun _ => ⟨(by have h1 := w_slices_Contains___int_int__2 F d A a4 a2 e4; exact h1.ok ⟨(.inl ⟨r3 d a4,.head _,Cov.refl _⟩),trivial⟩),bool_eq h5,rfl,(by have h1 := w_pglog_Check_2 F J (S_api_Version.mk K L) a p h b q i c r j e7; exact h1.ok ⟨(.inl ⟨r52 a h,.head _,Cov.refl _⟩),(.inl ⟨r80 b i,(.tail _ (.head _)),Cov.refl _⟩),(.inl ⟨r76 c j,(.tail _ (.tail _ (.head _))),Cov.refl _⟩),trivial⟩),trivial⟩) ?_
   intro _
   refine GS.rekey (env' := [(1,vI a1),(2,vI a2),(3,vI a3),(4,.slice d a4.length A),(6,pA ((e 0).x) 0),(11,pA ((e 1).x) 0),(25,.bool (y6 != 0))]) (mem' := [(1,r3 d a4),(2,r52 a h),(3,r80 b i),(4,r76 c j),(5,.cells ((e 0).x) 23 [vI G,vI H]),(6,.cells ((e 1).x) 31 (kc43 J K L a h.length p b i.length q c j.length r))]) [1,2,3,4,6,11,25] [(1,1),(2,2),(3,3),(4,4),(5,5),(6,6)] (by kernel_rfl) (by kernel_rfl) rfl ?_
   exact H9 (y6 != 0) hm
 ·rintro U hm
  replace hm := (ac _).symm.trans hm
  try dsimp only at hm
  refine GS.cond (t := U) rfl rfl (fun aa => ?_) (fun aa => ?_)
  ·replace hm := br_t aa hm
   refine GS.seq ?_
   refine GS.tz (fun _ => [(12,.pointer none),(13,vI 22)]) (fun _ => []) [] ?_
   intro _
   have hy := Option.some.inj hm
   subst hy
   refine GS.ret (fn := Try.f6) [0,0] [.pointer none,vI 22] [] rfl Try.func6 (by kernel_rfl) trivial (fun w' hs => ?_)
   exact ⟨⟨(),⟨0,none,0,none,0,none,0,none,0⟩,⟨0,none,0,none,0,none,0⟩⟩,rfl,hs.turnedG (ks := []) rfl rfl⟩
  ·replace hm := br_f aa hm
   refine GS.skip ?_
   refine GS.seq ?_
   refine GS.tzM (fun _ => [(1,vI a1),(2,vI a2),(3,vI a3),(4,.slice d a4.length A),(6,pA ((e 0).x) 0),(11,pA ((e 1).x) 0),(14,.slice none 0 0)]) [] ?_
   intro _
   refine GS.seq ?_
   refine GS.seq ?_
   refine GS.tzM (fun _ => [(1,vI a1),(2,vI a2),(3,vI a3),(6,pA ((e 0).x) 0),(11,pA ((e 1).x) 0),(14,.slice none 0 0),(26,.slice d a4.length A),(27,vI (a4.length : Int)),(28,vI 0)]) [] ?_
   intro _
   refine GS.block ?_
   refine GS.loop ?_
   refine grd_elim hm (fun V hm => ?_)
   refine GS.rekey (env' := [(1,vI a1),(2,vI a2),(3,vI a3),(6,pA ((e 0).x) 0),(11,pA ((e 1).x) 0),(14,.slice none 0 0),(26,.slice d a4.length A),(27,vI (a4.length : Int)),(28,vI 0)]) (mem' := [(1,r3 d a4),(2,r52 a h),(3,r80 b i),(4,r76 c j),(5,.cells ((e 0).x) 23 [vI G,vI H]),(6,.cells ((e 1).x) 31 (kc43 J K L a h.length p b i.length q c j.length r))]) [1,2,3,6,11,14,26,27,28] [(1,1),(2,2),(3,3),(4,4),(5,5),(6,6)] (by kernel_rfl) (by kernel_rfl) rfl ?_
   refine loopL_elim hm (fun st228 fn229 hst230 hfn231 hm => ?_)
   refine GS.loopInv (ι := List Int × Nat) (I := fun ⟨Q,n⟩ => a4.drop n = Q ∧ loopL st228 fn229 Q n () = some y) (μ := fun ⟨Q,n⟩ => Q.length) (E := fun ⟨Q,n⟩ => [(1,vI a1),(2,vI a2),(3,vI a3),(6,pA ((e 0).x) 0),(11,pA ((e 1).x) 0),(14,.slice none 0 0),(26,.slice d a4.length A),(27,vI (a4.length : Int)),(28,vI (n : Int))]) (M := fun ⟨Q,n⟩ => [(1,r3 d a4),(2,r52 a h),(3,r80 b i),(4,r76 c j),(5,.cells ((e 0).x) 23 [vI G,vI H]),(6,.cells ((e 1).x) 31 (kc43 J K L a h.length p b i.length q c j.length r))]) ?_ ⟨a4,0⟩ ⟨List.drop_zero ..,hm⟩
   rintro ⟨Q,n⟩ ⟨T,hm⟩ ab
   cases Q with
   | nil =>
    replace hm := (hfn231 _ _).symm.trans hm
    try dsimp only at hm
    refine GS.seq ?_
    refine GS.tzM (fun _ => [(1,vI a1),(2,vI a2),(3,vI a3),(6,pA ((e 0).x) 0),(11,pA ((e 1).x) 0),(14,.slice none 0 0),(26,.slice d a4.length A),(27,vI (a4.length : Int)),(28,vI (n : Int)),(29,.bool (decide ((n : Int) < (a4.length : Int))))]) [] ?_
    intro _
    refine GS.seq ?_
    refine GS.cond (t := decide ((n : Int) < (a4.length : Int))) rfl rfl (fun ad => absb ad (drop_dec0 T)) (fun _ => ?_)
    refine GS.exit rfl ?_
    refine GS.seq ?_
    refine bnd_elim hm (fun u ae hm => ?_)
    refine GS.region (env' := fun l => [(12,pA ((l 8).x) 0),(13,vI 0)]) (mem' := fun l => [(10,bag [o52 (((l 6).xs.getD 0 (none,0)).1) (((l 6).xs.getD 1 (none,0)).2) u.2.2.1,o80 (((l 6).xs.getD 2 (none,0)).1) (((l 6).xs.getD 3 (none,0)).2) u.2.2.2.1,o76 (((l 6).xs.getD 4 (none,0)).1) (((l 6).xs.getD 5 (none,0)).2) u.2.2.2.2]),(11,.cells ((l 8).x) 69 (kc48 G H a1 a2 a3 u.1 u.2.1.Epoch u.2.1.N (((l 6).xs.getD 0 (none,0)).1) u.2.2.1.length (((l 6).xs.getD 1 (none,0)).2) (((l 6).xs.getD 2 (none,0)).1) u.2.2.2.1.length (((l 6).xs.getD 3 (none,0)).2) (((l 6).xs.getD 4 (none,0)).1) u.2.2.2.2.length (((l 6).xs.getD 5 (none,0)).2)))]) (RunsTo.mkd [(0,{ act := .load 5 0 0 [] }),(5,{ act := .load 6 0 0 [] }),(6,{ act := .calln [2,3,4] (fun f => .agg ((kc43 u.1 u.2.1.Epoch u.2.1.N (f.xs.getD 0 (none,0)).1 u.2.2.1.length (f.xs.getD 1 (none,0)).2 (f.xs.getD 2 (none,0)).1 u.2.2.2.1.length (f.xs.getD 3 (none,0)).2 (f.xs.getD 4 (none,0)).1 u.2.2.2.2.length (f.xs.getD 5 (none,0)).2)).toArray) (fun f => bag [o52 (f.xs.getD 0 (none,0)).1 (f.xs.getD 1 (none,0)).2 u.2.2.1,o80 (f.xs.getD 2 (none,0)).1 (f.xs.getD 3 (none,0)).2 u.2.2.2.1,o76 (f.xs.getD 4 (none,0)).1 (f.xs.getD 5 (none,0)).2 u.2.2.2.2]),key := some 10 }),(8,{ act := .new .var,key := some 11 })] [12,13] [10,11] (fun l => [(e 0).x = (e 0).x,(e 1).x = (e 1).x,CallN Try.prog 11 #[.agg ((kc43 J K L a h.length p b i.length q c j.length r)).toArray] (fun f => .agg ((kc43 u.1 u.2.1.Epoch u.2.1.N (f.xs.getD 0 (none,0)).1 u.2.2.1.length (f.xs.getD 1 (none,0)).2 (f.xs.getD 2 (none,0)).1 u.2.2.2.1.length (f.xs.getD 3 (none,0)).2 (f.xs.getD 4 (none,0)).1 u.2.2.2.2.length (f.xs.getD 5 (none,0)).2)).toArray) (fun f => bag [o52 (f.xs.getD 0 (none,0)).1 (f.xs.getD 1 (none,0)).2 u.2.2.1,o80 (f.xs.getD 2 (none,0)).1 (f.xs.getD 3 (none,0)).2 u.2.2.2.1,o76 (f.xs.getD 4 (none,0)).1 (f.xs.getD 5 (none,0)).2 u.2.2.2.2]) [some (r52 a h),some (r80 b i),some (r76 c j)]]) (by kernel_rfl) (by kernel_rfl) (fun l => by kernel_rfl) (fun l => ⟨rfl,rfl,(by have h1 := w_pglog_Copy_4 F J (S_api_Version.mk K L) a p h b q i c r j ae; exact CallG.toNB (efs := fun f => [o52 (f.xs.getD 0 (none,0)).1 (f.xs.getD 1 (none,0)).2 u.2.2.1,o80 (f.xs.getD 2 (none,0)).1 (f.xs.getD 3 (none,0)).2 u.2.2.2.1,o76 (f.xs.getD 4 (none,0)).1 (f.xs.getD 5 (none,0)).2 u.2.2.2.2]) h1 ⟨(.inl ⟨r52 a h,.head _,Cov.refl _⟩),(.inl ⟨r80 b i,(.tail _ (.head _)),Cov.refl _⟩),(.inl ⟨r76 c j,(.tail _ (.tail _ (.head _))),Cov.refl _⟩),trivial⟩ (fun x => ⟨0,none,0,[(x.1,0),(none,x.2.1),(x.2.2.1,0),(none,x.2.2.2.1),(x.2.2.2.2.1,0),(none,x.2.2.2.2.2)],fun _ _ => (none,0)⟩) (fun _ => rfl) (fun _ => rfl) (fun _ => rfl)),trivial⟩)) ?_
    intro l
    refine GS.setMem (mem' := [(11,.cells ((l 8).x) 69 (kc48 G H a1 a2 a3 u.1 u.2.1.Epoch u.2.1.N (((l 6).xs.getD 0 (none,0)).1) u.2.2.1.length (((l 6).xs.getD 1 (none,0)).2) (((l 6).xs.getD 2 (none,0)).1) u.2.2.2.1.length (((l 6).xs.getD 3 (none,0)).2) (((l 6).xs.getD 4 (none,0)).1) u.2.2.2.2.length (((l 6).xs.getD 5 (none,0)).2))),(12,o52 (((l 6).xs.getD 0 (none,0)).1) (((l 6).xs.getD 1 (none,0)).2) u.2.2.1),(13,o80 (((l 6).xs.getD 2 (none,0)).1) (((l 6).xs.getD 3 (none,0)).2) u.2.2.2.1),(14,o76 (((l 6).xs.getD 4 (none,0)).1) (((l 6).xs.getD 5 (none,0)).2) u.2.2.2.2)]) (fun w hw => unbag_mem (k := 10) (nk := [12,13,14]) (keys := [11,12,13,14]) hw rfl rfl rfl rfl (by kernel_rfl)) ?_
    have hy := Option.some.inj hm
    subst hy
    refine GS.ret (fn := Try.f6) [0,0] [pA ((l 8).x) 0,vI 0] [] rfl Try.func6 (by kernel_rfl) trivial (fun w' hs => ?_)
    exact ⟨⟨(),⟨0,none,0,none,0,none,0,none,0⟩,⟨(l 8).x,((l 6).xs.getD 0 (none,0)).1,((l 6).xs.getD 1 (none,0)).2,((l 6).xs.getD 2 (none,0)).1,((l 6).xs.getD 3 (none,0)).2,((l 6).xs.getD 4 (none,0)).1,((l 6).xs.getD 5 (none,0)).2⟩⟩,rfl,hs.turnedG (ks := [12,13,14,11]) rfl rfl⟩
   | cons O Q =>
    replace hm := (hst230 _ _ _ _).symm.trans hm
    try dsimp only at hm
    refine GS.seq ?_
    refine GS.tzM (fun _ => [(1,vI a1),(2,vI a2),(3,vI a3),(6,pA ((e 0).x) 0),(11,pA ((e 1).x) 0),(14,.slice none 0 0),(26,.slice d a4.length A),(27,vI (a4.length : Int)),(28,vI (n : Int)),(29,.bool (decide ((n : Int) < (a4.length : Int))))]) [] ?_
    intro _
    refine GS.seq ?_
    refine GS.cond (t := decide ((n : Int) < (a4.length : Int))) rfl rfl (fun _ => ?_) (fun af => absb (drop_dec T) af)
    refine GS.skip ?_
    refine GS.seq ?_
    refine GS.block ?_
    refine GS.seq ?_
    refine GS.tgM (fun _ => [(1,vI a1),(2,vI a2),(3,vI a3),(6,pA ((e 0).x) 0),(11,pA ((e 1).x) 0),(14,.slice none 0 0),(16,vI O),(26,.slice d a4.length A),(27,vI (a4.length : Int)),(28,vI (n : Int))]) [(0,{ act := .idx 1 n }),(1,{ act := .load 1 n 0 [vI O] })] (fun _ => [d = d,a4.length = (List.map rI a4).length,((n : Int) : Int) = (n : Int),n < a4.length,blk d = blk d,offs d + n * 1 = offs d + (n * 1 + 0),(List.map rI a4)[n]? = some [vI O]]) (fun _ => ⟨rfl,mlen rI a4,rfl,(drop_lt T),rfl,rfl,map_drop rI T,trivial⟩) ?_
    intro _
    refine GS.seq ?_
    refine GS.tzM (fun _ => [(1,vI a1),(2,vI a2),(3,vI a3),(6,pA ((e 0).x) 0),(11,pA ((e 1).x) 0),(14,.slice none 0 0),(16,vI O),(26,.slice d a4.length A),(27,vI (a4.length : Int)),(28,vI (n : Int)),(34,.bool (O != a2))]) [] ?_
    intro _
    refine GS.cond (t := O != a2) rfl rfl (fun W => ?_) (fun W => ?_)
    ·replace hm := br_t W hm
     refine GS.tg (fun s => [(1,vI a1),(2,vI a2),(3,vI a3),(6,pA ((e 0).x) 0),(11,pA ((e 1).x) 0),(14,.slice ((s 3).ob) 1 ((s 3).cap)),(26,.slice d a4.length A),(27,vI (a4.length : Int)),(28,vI (n : Int))]) (fun s => [(1,r3 d a4),(2,r52 a h),(3,r80 b i),(4,r76 c j),(5,.cells ((e 0).x) 23 [vI G,vI H]),(6,.cells ((e 1).x) 31 (kc43 J K L a h.length p b i.length q c j.length r)),(8,.osl ((s 3).ob) ((s 3).cap) 3 1 ([[vI O]] : List (List Value)))]) [(2,{ act := .new (.row 1 1),key := some 7 }),(3,{ act := .app (some 7),key := some 8,spf := some (fun f => .slice (f.ob) 1 (f.cap)) })] (fun s => [(some (Addr.mk (s 2).x 0 none)) = (some (Addr.mk (s 2).x 0 none)),1 = ([[vI O]] : List (List Value)).length,0 = 0,0 = 0,([[vI O]] : List (List Value)).length * (8 + 1) ≤ 70368744177664,((.slice ((s 3).ob) (0 + ([[vI O]] : List (List Value)).length) ((s 3).cap)) : Value) = .slice ((s 3).ob) 1 ((s 3).cap)]) (fun s => ⟨rfl,rfl,rfl,rfl,(show 1 * (8 + 1) ≤ 70368744177664 by decide),rfl,trivial⟩) ?_
     intro s
     refine GS.conv (mem' := [(1,r3 d a4),(2,r52 a h),(3,r80 b i),(4,r76 c j),(5,.cells ((e 0).x) 23 [vI G,vI H]),(6,.cells ((e 1).x) 31 (kc43 J K L a h.length p b i.length q c j.length r)),(8,.osl ((s 3).ob) ((s 3).cap) 3 1 [[vI O]])]) rfl (congrArg (fun rr : List (List Value) => ([(1,r3 d a4),(2,r52 a h),(3,r80 b i),(4,r76 c j),(5,.cells ((e 0).x) 23 [vI G,vI H]),(6,.cells ((e 1).x) 31 (kc43 J K L a h.length p b i.length q c j.length r)),(8,.osl ((s 3).ob) ((s 3).cap) 3 1 rr)] : List (Nat × Ent))) (show ([[vI O]] : List (List Value)) = ([[vI O]] : List (List Value)) from rfl)) ?_
     refine GS.inBlock ?_
     refine GS.tgM (fun _ => [(1,vI a1),(2,vI a2),(3,vI a3),(6,pA ((e 0).x) 0),(11,pA ((e 1).x) 0),(14,.slice ((s 3).ob) 1 ((s 3).cap)),(26,.slice d a4.length A),(27,vI (a4.length : Int)),(28,vI ((n + 1 : Nat) : Int))]) [(0,{ sp := some (vI ((n + 1 : Nat) : Int)) })] (fun _ => [((vI (IntKind.i64.wrap ((n : Int) + 1))) : Value) = vI ((n + 1 : Nat) : Int)]) (fun _ => ⟨natw (drop_lt T) V,trivial⟩) ?_
     intro _
     refine GS.inLoop ?_
     refine GS.conv (env' := [(1,vI a1),(2,vI a2),(3,vI a3),(6,pA ((e 0).x) 0),(11,pA ((e 1).x) 0),(14,.slice ((s 3).ob) ([O].length) ((s 3).cap)),(26,.slice d a4.length A),(27,vI (a4.length : Int)),(28,vI ((n + 1 : Nat) : Int))]) (mem' := [(1,r3 d a4),(2,r52 a h),(3,r80 b i),(4,r76 c j),(5,.cells ((e 0).x) 23 [vI G,vI H]),(6,.cells ((e 1).x) 31 (kc43 J K L a h.length p b i.length q c j.length r)),(8,o3 ((s 3).ob) ((s 3).cap) [O])]) rfl rfl ?_
     refine GS.rekey (env' := [(1,vI a1),(2,vI a2),(3,vI a3),(6,pA ((e 0).x) 0),(11,pA ((e 1).x) 0),(14,.slice ((s 3).ob) ([O].length) ((s 3).cap)),(26,.slice d a4.length A),(27,vI (a4.length : Int)),(28,vI ((n + 1 : Nat) : Int))]) (mem' := [(1,r3 d a4),(2,r52 a h),(3,r80 b i),(4,r76 c j),(5,.cells ((e 0).x) 23 [vI G,vI H]),(6,.cells ((e 1).x) 31 (kc43 J K L a h.length p b i.length q c j.length r)),(8,o3 ((s 3).ob) ((s 3).cap) [O])]) [1,2,3,6,11,14,26,27,28] [(1,1),(2,2),(3,3),(4,4),(5,5),(6,6),(8,8)] (by kernel_rfl) (by kernel_rfl) rfl ?_
     refine loopL_elim hm (fun st218 fn219 hst220 hfn221 hm => ?_)
     refine GS.loopInv (ι := List Int × Nat × List Int × Option Addr × Nat) (I := fun ⟨P,g,o,C,D⟩ => a4.drop g = P ∧ loopL st218 fn219 P g o = some y) (μ := fun ⟨P,g,o,C,D⟩ => P.length) (E := fun ⟨P,g,o,C,D⟩ => [(1,vI a1),(2,vI a2),(3,vI a3),(6,pA ((e 0).x) 0),(11,pA ((e 1).x) 0),(14,.slice C o.length D),(26,.slice d a4.length A),(27,vI (a4.length : Int)),(28,vI (g : Int))]) (M := fun ⟨P,g,o,C,D⟩ => [(1,r3 d a4),(2,r52 a h),(3,r80 b i),(4,r76 c j),(5,.cells ((e 0).x) 23 [vI G,vI H]),(6,.cells ((e 1).x) 31 (kc43 J K L a h.length p b i.length q c j.length r)),(8,o3 C D o)]) ?_ ⟨(a4.drop (n + 1)),n + 1,[O],(s 3).ob,(s 3).cap⟩ ⟨rfl,hm⟩
     rintro ⟨P,g,o,C,D⟩ ⟨R,hm⟩ Y
     cases P with
     | nil =>
      replace hm := (hfn221 _ _).symm.trans hm
      try dsimp only at hm
      refine GS.seq ?_
      refine GS.tzM (fun _ => [(1,vI a1),(2,vI a2),(3,vI a3),(6,pA ((e 0).x) 0),(11,pA ((e 1).x) 0),(14,.slice C o.length D),(26,.slice d a4.length A),(27,vI (a4.length : Int)),(28,vI (g : Int)),(29,.bool (decide ((g : Int) < (a4.length : Int))))]) [] ?_
      intro _
      refine GS.seq ?_
      refine GS.cond (t := decide ((g : Int) < (a4.length : Int))) rfl rfl (fun ag => absb ag (drop_dec0 R)) (fun _ => ?_)
      refine GS.exit rfl ?_
      refine GS.seq ?_
      refine bnd_elim hm (fun v ah hm => ?_)
      refine GS.region (env' := fun m => [(12,pA ((m 8).x) 0),(13,vI 0)]) (mem' := fun m => [(8,o3 C D o),(12,bag [o52 (((m 6).xs.getD 0 (none,0)).1) (((m 6).xs.getD 1 (none,0)).2) v.2.2.1,o80 (((m 6).xs.getD 2 (none,0)).1) (((m 6).xs.getD 3 (none,0)).2) v.2.2.2.1,o76 (((m 6).xs.getD 4 (none,0)).1) (((m 6).xs.getD 5 (none,0)).2) v.2.2.2.2]),(13,.cells ((m 8).x) 69 (kc47 G H a1 a2 a3 C o.length D v.1 v.2.1.Epoch v.2.1.N (((m 6).xs.getD 0 (none,0)).1) v.2.2.1.length (((m 6).xs.getD 1 (none,0)).2) (((m 6).xs.getD 2 (none,0)).1) v.2.2.2.1.length (((m 6).xs.getD 3 (none,0)).2) (((m 6).xs.getD 4 (none,0)).1) v.2.2.2.2.length (((m 6).xs.getD 5 (none,0)).2)))]) (RunsTo.mkd [(0,{ act := .load 5 0 0 [] }),(5,{ act := .load 6 0 0 [] }),(6,{ act := .calln [2,3,4] (fun f => .agg ((kc43 v.1 v.2.1.Epoch v.2.1.N (f.xs.getD 0 (none,0)).1 v.2.2.1.length (f.xs.getD 1 (none,0)).2 (f.xs.getD 2 (none,0)).1 v.2.2.2.1.length (f.xs.getD 3 (none,0)).2 (f.xs.getD 4 (none,0)).1 v.2.2.2.2.length (f.xs.getD 5 (none,0)).2)).toArray) (fun f => bag [o52 (f.xs.getD 0 (none,0)).1 (f.xs.getD 1 (none,0)).2 v.2.2.1,o80 (f.xs.getD 2 (none,0)).1 (f.xs.getD 3 (none,0)).2 v.2.2.2.1,o76 (f.xs.getD 4 (none,0)).1 (f.xs.getD 5 (none,0)).2 v.2.2.2.2]),key := some 12 }),(8,{ act := .new .var,key := some 13 })] [12,13] [8,12,13] (fun m => [(e 0).x = (e 0).x,(e 1).x = (e 1).x,CallN Try.prog 11 #[.agg ((kc43 J K L a h.length p b i.length q c j.length r)).toArray] (fun f => .agg ((kc43 v.1 v.2.1.Epoch v.2.1.N (f.xs.getD 0 (none,0)).1 v.2.2.1.length (f.xs.getD 1 (none,0)).2 (f.xs.getD 2 (none,0)).1 v.2.2.2.1.length (f.xs.getD 3 (none,0)).2 (f.xs.getD 4 (none,0)).1 v.2.2.2.2.length (f.xs.getD 5 (none,0)).2)).toArray) (fun f => bag [o52 (f.xs.getD 0 (none,0)).1 (f.xs.getD 1 (none,0)).2 v.2.2.1,o80 (f.xs.getD 2 (none,0)).1 (f.xs.getD 3 (none,0)).2 v.2.2.2.1,o76 (f.xs.getD 4 (none,0)).1 (f.xs.getD 5 (none,0)).2 v.2.2.2.2]) [some (r52 a h),some (r80 b i),some (r76 c j)]]) (by kernel_rfl) (by kernel_rfl) (fun m => by kernel_rfl) (fun m => ⟨rfl,rfl,(by have h1 := w_pglog_Copy_4 F J (S_api_Version.mk K L) a p h b q i c r j ah; exact CallG.toNB (efs := fun f => [o52 (f.xs.getD 0 (none,0)).1 (f.xs.getD 1 (none,0)).2 v.2.2.1,o80 (f.xs.getD 2 (none,0)).1 (f.xs.getD 3 (none,0)).2 v.2.2.2.1,o76 (f.xs.getD 4 (none,0)).1 (f.xs.getD 5 (none,0)).2 v.2.2.2.2]) h1 ⟨(.inl ⟨r52 a h,.head _,Cov.refl _⟩),(.inl ⟨r80 b i,(.tail _ (.head _)),Cov.refl _⟩),(.inl ⟨r76 c j,(.tail _ (.tail _ (.head _))),Cov.refl _⟩),trivial⟩ (fun x => ⟨0,none,0,[(x.1,0),(none,x.2.1),(x.2.2.1,0),(none,x.2.2.2.1),(x.2.2.2.2.1,0),(none,x.2.2.2.2.2)],fun _ _ => (none,0)⟩) (fun _ => rfl) (fun _ => rfl) (fun _ => rfl)),trivial⟩)) ?_
      intro m
      refine GS.setMem (mem' := [(8,o3 C D o),(13,.cells ((m 8).x) 69 (kc47 G H a1 a2 a3 C o.length D v.1 v.2.1.Epoch v.2.1.N (((m 6).xs.getD 0 (none,0)).1) v.2.2.1.length (((m 6).xs.getD 1 (none,0)).2) (((m 6).xs.getD 2 (none,0)).1) v.2.2.2.1.length (((m 6).xs.getD 3 (none,0)).2) (((m 6).xs.getD 4 (none,0)).1) v.2.2.2.2.length (((m 6).xs.getD 5 (none,0)).2))),(14,o52 (((m 6).xs.getD 0 (none,0)).1) (((m 6).xs.getD 1 (none,0)).2) v.2.2.1),(15,o80 (((m 6).xs.getD 2 (none,0)).1) (((m 6).xs.getD 3 (none,0)).2) v.2.2.2.1),(16,o76 (((m 6).xs.getD 4 (none,0)).1) (((m 6).xs.getD 5 (none,0)).2) v.2.2.2.2)]) (fun w hw => unbag_mem (k := 12) (nk := [14,15,16]) (keys := [8,13,14,15,16]) hw rfl rfl rfl rfl (by kernel_rfl)) ?_
      have hy := Option.some.inj hm
      subst hy
      refine GS.ret (fn := Try.f6) [0,0] [pA ((m 8).x) 0,vI 0] [] rfl Try.func6 (by kernel_rfl) trivial (fun w' hs => ?_)
      exact ⟨⟨(),⟨(m 8).x,C,D,((m 6).xs.getD 0 (none,0)).1,((m 6).xs.getD 1 (none,0)).2,((m 6).xs.getD 2 (none,0)).1,((m 6).xs.getD 3 (none,0)).2,((m 6).xs.getD 4 (none,0)).1,((m 6).xs.getD 5 (none,0)).2⟩,⟨0,none,0,none,0,none,0⟩⟩,rfl,hs.turnedG (ks := [8,14,15,16,13]) rfl rfl⟩
     | cons B P =>
      replace hm := (hst220 _ _ _ _).symm.trans hm
      try dsimp only at hm
      refine GS.seq ?_
      refine GS.tzM (fun _ => [(1,vI a1),(2,vI a2),(3,vI a3),(6,pA ((e 0).x) 0),(11,pA ((e 1).x) 0),(14,.slice C o.length D),(26,.slice d a4.length A),(27,vI (a4.length : Int)),(28,vI (g : Int)),(29,.bool (decide ((g : Int) < (a4.length : Int))))]) [] ?_
      intro _
      refine GS.seq ?_
      refine GS.cond (t := decide ((g : Int) < (a4.length : Int))) rfl rfl (fun _ => ?_) (fun ai => absb (drop_dec R) ai)
      refine GS.skip ?_
      refine GS.seq ?_
      refine GS.block ?_
      refine GS.seq ?_
      refine GS.tgM (fun _ => [(1,vI a1),(2,vI a2),(3,vI a3),(6,pA ((e 0).x) 0),(11,pA ((e 1).x) 0),(14,.slice C o.length D),(16,vI B),(26,.slice d a4.length A),(27,vI (a4.length : Int)),(28,vI (g : Int))]) [(0,{ act := .idx 1 g }),(1,{ act := .load 1 g 0 [vI B] })] (fun _ => [d = d,a4.length = (List.map rI a4).length,((g : Int) : Int) = (g : Int),g < a4.length,blk d = blk d,offs d + g * 1 = offs d + (g * 1 + 0),(List.map rI a4)[g]? = some [vI B]]) (fun _ => ⟨rfl,mlen rI a4,rfl,(drop_lt R),rfl,rfl,map_drop rI R,trivial⟩) ?_
      intro _
      refine GS.seq ?_
      refine GS.tzM (fun _ => [(1,vI a1),(2,vI a2),(3,vI a3),(6,pA ((e 0).x) 0),(11,pA ((e 1).x) 0),(14,.slice C o.length D),(16,vI B),(26,.slice d a4.length A),(27,vI (a4.length : Int)),(28,vI (g : Int)),(34,.bool (B != a2))]) [] ?_
      intro _
      refine GS.cond (t := B != a2) rfl rfl (fun Z => ?_) (fun Z => ?_)
      ·replace hm := br_t Z hm
       refine grd_elim hm (fun aj hm => ?_)
       refine GS.tg (fun z => [(1,vI a1),(2,vI a2),(3,vI a3),(6,pA ((e 0).x) 0),(11,pA ((e 1).x) 0),(14,.slice ((z 3).ob) ((o ++ [B]).length) ((z 3).cap)),(26,.slice d a4.length A),(27,vI (a4.length : Int)),(28,vI (g : Int))]) (fun z => [(1,r3 d a4),(2,r52 a h),(3,r80 b i),(4,r76 c j),(5,.cells ((e 0).x) 23 [vI G,vI H]),(6,.cells ((e 1).x) 31 (kc43 J K L a h.length p b i.length q c j.length r)),(8,.osl ((z 3).ob) ((z 3).cap) 3 1 ((List.map rI o) ++ ([[vI B]] : List (List Value))))]) [(2,{ act := .new (.row 1 1),key := some 9 }),(3,{ act := .app (some 9),key := some 8,spf := some (fun f => .slice (f.ob) ((o ++ [B]).length) (f.cap)) })] (fun z => [(some (Addr.mk (z 2).x 0 none)) = (some (Addr.mk (z 2).x 0 none)),1 = ([[vI B]] : List (List Value)).length,C = C,D = D,o.length = (List.map rI o).length,((List.map rI o).length + ([[vI B]] : List (List Value)).length) * (8 + 1) ≤ 70368744177664,([[vI B]] : List (List Value)).flatten.all Value.oneCell' = true,((.slice ((z 3).ob) (o.length + ([[vI B]] : List (List Value)).length) ((z 3).cap)) : Value) = .slice ((z 3).ob) ((o ++ [B]).length) ((z 3).cap)]) (fun z => ⟨rfl,rfl,rfl,rfl,mlen rI o,appb aj (mlen rI o).symm (by rw [show ([[vI B]] : List (List Value)) = List.map rI [B] from rfl]; exact (mlen rI [B]).symm),(by rw [show ([[vI B]] : List (List Value)) = List.map rI [B] from (show ([[vI B]] : List (List Value)) = List.map rI [B] from rfl)]; exact all_one rI _ (fun _ => rfl)),slen (by simp),trivial⟩) ?_
       intro z
       refine GS.conv (mem' := [(1,r3 d a4),(2,r52 a h),(3,r80 b i),(4,r76 c j),(5,.cells ((e 0).x) 23 [vI G,vI H]),(6,.cells ((e 1).x) 31 (kc43 J K L a h.length p b i.length q c j.length r)),(8,o3 ((z 3).ob) ((z 3).cap) (o ++ [B]))]) rfl (congrArg (fun rr : List (List Value) => ([(1,r3 d a4),(2,r52 a h),(3,r80 b i),(4,r76 c j),(5,.cells ((e 0).x) 23 [vI G,vI H]),(6,.cells ((e 1).x) 31 (kc43 J K L a h.length p b i.length q c j.length r)),(8,.osl ((z 3).ob) ((z 3).cap) 3 1 rr)] : List (Nat × Ent))) (show (List.map rI o) ++ ([[vI B]] : List (List Value)) = List.map rI (o ++ [B]) from (by rw [show List.map rI o = List.map rI o from rfl,show ([[vI B]] : List (List Value)) = List.map rI [B] from (show ([[vI B]] : List (List Value)) = List.map rI [B] from rfl)]; exact mapp rI _ _))) ?_
       refine GS.inBlock ?_
       refine GS.tgM (fun _ => [(1,vI a1),(2,vI a2),(3,vI a3),(6,pA ((e 0).x) 0),(11,pA ((e 1).x) 0),(14,.slice ((z 3).ob) ((o ++ [B]).length) ((z 3).cap)),(26,.slice d a4.length A),(27,vI (a4.length : Int)),(28,vI ((g + 1 : Nat) : Int))]) [(0,{ sp := some (vI ((g + 1 : Nat) : Int)) })] (fun _ => [((vI (IntKind.i64.wrap ((g : Int) + 1))) : Value) = vI ((g + 1 : Nat) : Int)]) (fun _ => ⟨natw (drop_lt R) V,trivial⟩) ?_
       intro _
       refine GS.inLoop ?_
       refine GS.rekey (env' := [(1,vI a1),(2,vI a2),(3,vI a3),(6,pA ((e 0).x) 0),(11,pA ((e 1).x) 0),(14,.slice ((z 3).ob) ((o ++ [B]).length) ((z 3).cap)),(26,.slice d a4.length A),(27,vI (a4.length : Int)),(28,vI ((g + 1 : Nat) : Int))]) (mem' := [(1,r3 d a4),(2,r52 a h),(3,r80 b i),(4,r76 c j),(5,.cells ((e 0).x) 23 [vI G,vI H]),(6,.cells ((e 1).x) 31 (kc43 J K L a h.length p b i.length q c j.length r)),(8,o3 ((z 3).ob) ((z 3).cap) (o ++ [B]))]) [1,2,3,6,11,14,26,27,28] [(1,1),(2,2),(3,3),(4,4),(5,5),(6,6),(8,8)] (by kernel_rfl) (by kernel_rfl) rfl ?_
       exact Y ⟨P,g + 1,(o ++ [B]),(z 3).ob,(z 3).cap⟩ ⟨drop_next R,hm⟩ (Nat.lt_succ_self _)
      ·replace hm := br_f Z hm
       refine GS.skip ?_
       refine GS.inBlock ?_
       refine GS.tgM (fun _ => [(1,vI a1),(2,vI a2),(3,vI a3),(6,pA ((e 0).x) 0),(11,pA ((e 1).x) 0),(14,.slice C o.length D),(26,.slice d a4.length A),(27,vI (a4.length : Int)),(28,vI ((g + 1 : Nat) : Int))]) [(0,{ sp := some (vI ((g + 1 : Nat) : Int)) })] (fun _ => [((vI (IntKind.i64.wrap ((g : Int) + 1))) : Value) = vI ((g + 1 : Nat) : Int)]) (fun _ => ⟨natw (drop_lt R) V,trivial⟩) ?_
       intro _
       refine GS.inLoop ?_
       refine GS.rekey (env' := [(1,vI a1),(2,vI a2),(3,vI a3),(6,pA ((e 0).x) 0),(11,pA ((e 1).x) 0),(14,.slice C o.length D),(26,.slice d a4.length A),(27,vI (a4.length : Int)),(28,vI ((g + 1 : Nat) : Int))]) (mem' := [(1,r3 d a4),(2,r52 a h),(3,r80 b i),(4,r76 c j),(5,.cells ((e 0).x) 23 [vI G,vI H]),(6,.cells ((e 1).x) 31 (kc43 J K L a h.length p b i.length q c j.length r)),(8,o3 C D o)]) [1,2,3,6,11,14,26,27,28] [(1,1),(2,2),(3,3),(4,4),(5,5),(6,6),(8,8)] (by kernel_rfl) (by kernel_rfl) rfl ?_
       exact Y ⟨P,g + 1,o,C,D⟩ ⟨drop_next R,hm⟩ (Nat.lt_succ_self _)
    ·replace hm := br_f W hm
     refine GS.skip ?_
     refine GS.inBlock ?_
     refine GS.tgM (fun _ => [(1,vI a1),(2,vI a2),(3,vI a3),(6,pA ((e 0).x) 0),(11,pA ((e 1).x) 0),(14,.slice none 0 0),(26,.slice d a4.length A),(27,vI (a4.length : Int)),(28,vI ((n + 1 : Nat) : Int))]) [(0,{ sp := some (vI ((n + 1 : Nat) : Int)) })] (fun _ => [((vI (IntKind.i64.wrap ((n : Int) + 1))) : Value) = vI ((n + 1 : Nat) : Int)]) (fun _ => ⟨natw (drop_lt T) V,trivial⟩) ?_
     intro _
     refine GS.inLoop ?_
     refine GS.rekey (env' := [(1,vI a1),(2,vI a2),(3,vI a3),(6,pA ((e 0).x) 0),(11,pA ((e 1).x) 0),(14,.slice none 0 0),(26,.slice d a4.length A),(27,vI (a4.length : Int)),(28,vI ((n + 1 : Nat) : Int))]) (mem' := [(1,r3 d a4),(2,r52 a h),(3,r80 b i),(4,r76 c j),(5,.cells ((e 0).x) 23 [vI G,vI H]),(6,.cells ((e 1).x) 31 (kc43 J K L a h.length p b i.length q c j.length r))]) [1,2,3,6,11,14,26,27,28] [(1,1),(2,2),(3,3),(4,4),(5,5),(6,6)] (by kernel_rfl) (by kernel_rfl) rfl ?_
     exact ab ⟨Q,n + 1⟩ ⟨drop_next T,hm⟩ (Nat.lt_succ_self _)

theorem w_slices_IndexFunc___api_Msg_api_Msg__2 (F a1c0b : Nat) (a1c0_4 a1c0_7 a1c0_8 a1c0_10 : Int) {y : Unit} (hm : m_slices_IndexFunc___api_Msg_api_Msg__2 F a1c0_4 a1c0_7 a1c0_8 a1c0_10 = some y) : CallG Try.prog 32 #[.slice none 0 0,.func (.func 22) #[] #[pA a1c0b 0]] (X := Unit) (fun (_ : Unit) => vI (-1)) [] [.rd (some ⟨a1c0b,0,none⟩) 46 [(kc51 a1c0_4 a1c0_7 a1c0_8 a1c0_10)]] (fun (_ : Unit) => []) := by
 intro w hg
 rw [m_slices_IndexFunc___api_Msg_api_Msg__2] at hm
 refine GS.start (S := mayT [] [.rd (some ⟨a1c0b,0,none⟩) 46 [(kc51 a1c0_4 a1c0_7 a1c0_8 a1c0_10)]]) (mem := [(1,.rd (some ⟨a1c0b,0,none⟩) 46 [(kc51 a1c0_4 a1c0_7 a1c0_8 a1c0_10)])]) Try.func32 rfl Try.ntmps32 (Nat.le_of_ble_eq_true rfl) (hg.start rfl) ?_
 refine GS.conv (env' := [(0,.slice none 0 0),(1,.func (.func 22) #[] #[pA a1c0b 0])]) rfl rfl ?_
 refine GS.seq ?_
 refine GS.tzM (fun _ => [(0,.slice none 0 0),(1,.func (.func 22) #[] #[pA a1c0b 0])]) [] ?_
 intro _
 refine GS.seq ?_
 refine GS.seq ?_
 refine GS.tzM (fun _ => [(0,.slice none 0 0),(1,.func (.func 22) #[] #[pA a1c0b 0]),(7,vI 0),(8,vI 0)]) [] ?_
 intro _
 refine GS.block ?_
 refine GS.loop ?_
 refine GS.seq ?_
 refine GS.tzM (fun _ => [(0,.slice none 0 0),(1,.func (.func 22) #[] #[pA a1c0b 0]),(7,vI 0),(8,vI 0),(9,.bool false)]) [] ?_
 intro _
 refine GS.seq ?_
 refine GS.cond (t := false) rfl rfl (fun hf => by cases hf) (fun _ => ?_)
 refine GS.exit rfl ?_
 refine GS.seq ?_
 refine GS.tz (fun _ => [(4,vI (-1))]) (fun _ => []) [] ?_
 intro _
 have hy := Option.some.inj hm
 subst hy
 refine GS.ret (fn := Try.f32) [0] [vI (-1)] [] rfl Try.func32 (by kernel_rfl) trivial (fun w' hs => ?_)
 exact ⟨(),rfl,hs.turnedG (ks := []) rfl rfl⟩

theorem w_slices_ContainsFunc___api_Msg_api_Msg__2 (F a1c0b : Nat) (a1c0_4 a1c0_7 a1c0_8 a1c0_10 : Int) {y : Unit} (hm : m_slices_ContainsFunc___api_Msg_api_Msg__2 F a1c0_4 a1c0_7 a1c0_8 a1c0_10 = some y) : CallG Try.prog 25 #[.slice none 0 0,.func (.func 22) #[] #[pA a1c0b 0]] (X := Unit) (fun (_ : Unit) => .bool false) [] [.rd (some ⟨a1c0b,0,none⟩) 46 [(kc51 a1c0_4 a1c0_7 a1c0_8 a1c0_10)]] (fun (_ : Unit) => []) := by
 intro w hg
 rw [m_slices_ContainsFunc___api_Msg_api_Msg__2] at hm
 refine GS.start (S := mayT [] [.rd (some ⟨a1c0b,0,none⟩) 46 [(kc51 a1c0_4 a1c0_7 a1c0_8 a1c0_10)]]) (mem := [(1,.rd (some ⟨a1c0b,0,none⟩) 46 [(kc51 a1c0_4 a1c0_7 a1c0_8 a1c0_10)])]) Try.func25 rfl Try.ntmps25 (Nat.le_of_ble_eq_true rfl) (hg.start rfl) ?_
 refine GS.conv (env' := [(0,.slice none 0 0),(1,.func (.func 22) #[] #[pA a1c0b 0])]) rfl rfl ?_
 refine GS.seq ?_
 refine GS.tzM (fun _ => [(0,.slice none 0 0),(1,.func (.func 22) #[] #[pA a1c0b 0])]) [] ?_
 intro _
 refine GS.seq ?_
 refine bnd_elim hm (fun y3 e4 hm => ?_)
 refine GS.tg (fun _ => [(4,.bool false)]) (fun _ => []) [(2,{ act := .call [1] (vI (-1)) })] (fun _ => [CallOK Try.prog 32 #[.slice none 0 0,.func (.func 22) #[] #[pA a1c0b 0]] (vI (-1)) [some (.rd (some ⟨a1c0b,0,none⟩) 46 [(kc51 a1c0_4 a1c0_7 a1c0_8 a1c0_10)])]]) (fun _ => ⟨(by have h1 := w_slices_IndexFunc___api_Msg_api_Msg__2 F a1c0b a1c0_4 a1c0_7 a1c0_8 a1c0_10 e4; exact h1.ok ⟨(.inl ⟨.rd (some ⟨a1c0b,0,none⟩) 46 [(kc51 a1c0_4 a1c0_7 a1c0_8 a1c0_10)],.head _,Cov.refl _⟩),trivial⟩),trivial⟩) ?_
 intro _
 have hy := Option.some.inj hm
 subst hy
 refine GS.ret (fn := Try.f25) [0] [.bool false] [] rfl Try.func25 (by kernel_rfl) trivial (fun w' hs => ?_)
 exact ⟨(),rfl,hs.turnedG (ks := []) rfl rfl⟩

theorem w_slices_Clone___byte_byte__2 (F : Nat) {y : Unit} (hm : m_slices_Clone___byte_byte__2 F = some y) : CallG Try.prog 26 #[.slice none 0 0] (X := Unit) (fun (_ : Unit) => .slice none 0 0) [] [] (fun (_ : Unit) => []) := by
 intro w hg
 rw [m_slices_Clone___byte_byte__2] at hm
 refine GS.start (S := mayT [] []) (mem := []) Try.func26 rfl Try.ntmps26 (Nat.le_of_ble_eq_true rfl) (hg.start rfl) ?_
 refine GS.conv (env' := [(0,.slice none 0 0)]) rfl rfl ?_
 refine GS.seq ?_
 refine GS.tzM (fun _ => [(0,.slice none 0 0)]) [] ?_
 intro _
 refine GS.seq ?_
 refine GS.seq ?_
 refine GS.tzM (fun _ => [(0,.slice none 0 0),(4,.bool true)]) [] ?_
 intro _
 refine GS.cond (t := true) rfl rfl (fun _ => ?_) (fun hf => by cases hf)
 refine GS.seq ?_
 refine GS.tzM (fun _ => [(2,.slice none 0 0)]) [] ?_
 intro _
 have hy := Option.some.inj hm
 subst hy
 refine GS.ret (fn := Try.f26) [0] [.slice none 0 0] [] rfl Try.func26 (by kernel_rfl) trivial (fun w' hs => ?_)
 exact ⟨(),rfl,hs.turnedG (ks := []) rfl rfl⟩

theorem w_slices_Clone___int_int__2 (F : Nat) (b : Option Addr) (c : Nat) (a0 : List Int) {y : List Int} (hm : m_slices_Clone___int_int__2 F a0 = some y) : CallG Try.prog 41 #[.slice b a0.length c] (X := Option Addr × Nat) (fun ⟨x0,x1⟩ => .slice x0 y.length x1) [] [r3 b a0] (fun ⟨x0,x1⟩ => [o3 x0 x1 y]) := by
 intro w hg
 rw [m_slices_Clone___int_int__2] at hm
 refine GS.start (S := mayT [] [r3 b a0]) (mem := [(1,r3 b a0)]) Try.func41 rfl Try.ntmps41 (Nat.le_of_ble_eq_true rfl) (hg.start rfl) ?_
 refine GS.conv (env' := [(0,.slice b a0.length c)]) rfl rfl ?_
 refine GS.seq ?_
 refine GS.tzM (fun _ => [(0,.slice b a0.length c)]) [] ?_
 intro _
 refine GS.seq ?_
 refine GS.seq ?_
 refine GS.tzM (fun _ => [(0,.slice b a0.length c),(4,.bool b.isNone)]) [(1,{ act := .nilq })] ?_
 intro _
 refine GS.cond (t := b.isNone) rfl rfl (fun h3 => ?_) (fun h3 => ?_)
 ·skip
  refine GS.know (p := a0 = []) (fun w hw => nil_rd (hw.ok 1 _ rfl) h3) (fun hl7 => ?_)
  replace hm : some ([] : List Int) = some y := by rw [hl7] at hm; exact hm
  refine GS.seq ?_
  refine GS.tz (fun _ => [(2,.slice none 0 0)]) (fun _ => []) [] ?_
  intro _
  refine GS.setMem (mem' := [(2,o3 none 0 ([] : List Int))]) (fun w hw => Sat.addNil hw rfl) ?_
  have hy := Option.some.inj hm
  subst hy
  refine GS.ret (fn := Try.f41) [0] [.slice none 0 0] [] rfl Try.func41 (by kernel_rfl) trivial (fun w' hs => ?_)
  exact ⟨⟨none,0⟩,rfl,hs.turnedG (ks := [2]) rfl rfl⟩
 ·skip
  refine GS.skip ?_
  refine GS.seq ?_
  refine grd_elim hm (fun g6 hm => ?_)
  refine GS.tg (fun a => [(2,.slice ((a 2).ob) ((([] : List Int) ++ a0).length) ((a 2).cap))]) (fun a => [(2,.osl ((a 2).ob) ((a 2).cap) 3 1 (([] : List (List Value)) ++ (List.map rI a0)))]) [(0,{ act := .new (.row 0 1),key := some 2,spf := some (fun f => .slice (some (Addr.mk f.x 0 none)) ((([] : List Int) : List Int).length) 0) }),(2,{ act := .app (some 1),key := some 2,spf := some (fun f => .slice (f.ob) ((([] : List Int) ++ a0).length) (f.cap)) })] (fun a => [((.slice (some (Addr.mk (a 0).x 0 none)) 0 0) : Value) = .slice (some (Addr.mk (a 0).x 0 none)) ((([] : List Int) : List Int).length) 0,b = b,a0.length = (List.map rI a0).length,(some (Addr.mk (a 0).x 0 none)) = (some (Addr.mk (a 0).x 0 none)),0 = 0,(([] : List Int) : List Int).length = ([] : List (List Value)).length,(([] : List (List Value)).length + (List.map rI a0).length) * (8 + 1) ≤ 70368744177664,(List.map rI a0).flatten.all Value.oneCell' = true,((.slice ((a 2).ob) (((([] : List Int) : List Int).length) + (List.map rI a0).length) ((a 2).cap)) : Value) = .slice ((a 2).ob) ((([] : List Int) ++ a0).length) ((a 2).cap)]) (fun a => ⟨rfl,rfl,mlen rI a0,rfl,rfl,(by rw [show ([] : List (List Value)) = List.map rI ([] : List Int) from rfl]; exact mlen rI ([] : List Int)),appb g6 (by rw [show ([] : List (List Value)) = List.map rI ([] : List Int) from rfl]; exact (mlen rI ([] : List Int)).symm) (mlen rI a0).symm,(by rw [show List.map rI a0 = List.map rI a0 from rfl]; exact all_one rI _ (fun _ => rfl)),slen (by simp),trivial⟩) ?_
  intro a
  refine GS.conv (mem' := [(2,o3 ((a 2).ob) ((a 2).cap) (([] : List Int) ++ a0))]) rfl (congrArg (fun rr : List (List Value) => ([(2,.osl ((a 2).ob) ((a 2).cap) 3 1 rr)] : List (Nat × Ent))) (show ([] : List (List Value)) ++ (List.map rI a0) = List.map rI (([] : List Int) ++ a0) from (by rw [show ([] : List (List Value)) = List.map rI ([] : List Int) from rfl,show List.map rI a0 = List.map rI a0 from rfl]; exact mapp rI _ _))) ?_
  have hy := Option.some.inj hm
  subst hy
  refine GS.ret (fn := Try.f41) [0] [.slice ((a 2).ob) ((([] : List Int) ++ a0).length) ((a 2).cap)] [] rfl Try.func41 (by kernel_rfl) trivial (fun w' hs => ?_)
  exact ⟨⟨(a 2).ob,(a 2).cap⟩,rfl,hs.turnedG (ks := [2]) rfl rfl⟩

theorem w___primary_Machine__to_3 (F I : Nat) (n o t m u : Int) (d : Option Addr) (p : Nat) (v : List Int) (B C D : Int) (e : Option Addr) (q : Nat) (z : List S_api_Entry) (a : Option Addr) (g : Nat) (k : List S_api_Last) (b : Option Addr) (h : Nat) (l : List S_api_Item) (c : Option Addr) (i f : Nat) (G H : Int) (j : Option Addr) (E : Nat) (r : List Int) (s a1 J : Int) {y : Unit} (hm : m___primary_Machine__to_3 F n o t m u v B C D z k l G H r s a1 J = some y) : CallG Try.prog 31 #[pA I 0,vI a1,.agg ((kc57 J)).toArray] (X := Unit) (fun (_ : Unit) => .agg ((kc59 m a1 u t n o J)).toArray) [] [r3 d v,r52 e z,r80 a k,r76 b l,.rd c 46 [],r3 j r,.rd (some ⟨f,0,none⟩) 61 [(kc56 m n o G H j r.length E)],.rd (some ⟨I,0,none⟩) 17 [(kc55 n o t m u d v.length p B C D e z.length q a k.length g b l.length h c i f s)]] (fun (_ : Unit) => []) := by
 intro w hg
 rw [m___primary_Machine__to_3] at hm
 refine GS.start (S := mayT [] [r3 d v,r52 e z,r80 a k,r76 b l,.rd c 46 [],r3 j r,.rd (some ⟨f,0,none⟩) 61 [(kc56 m n o G H j r.length E)],.rd (some ⟨I,0,none⟩) 17 [(kc55 n o t m u d v.length p B C D e z.length q a k.length g b l.length h c i f s)]]) (mem := [(1,r3 d v),(2,r52 e z),(3,r80 a k),(4,r76 b l),(5,.rd c 46 []),(6,r3 j r),(7,.rd (some ⟨f,0,none⟩) 61 [(kc56 m n o G H j r.length E)]),(8,.rd (some ⟨I,0,none⟩) 17 [(kc55 n o t m u d v.length p B C D e z.length q a k.length g b l.length h c i f s)])]) Try.func31 rfl Try.ntmps31 (Nat.le_of_ble_eq_true rfl) (hg.start rfl) ?_
 refine GS.conv (env' := [(0,pA I 0),(1,vI a1),(2,.agg ((kc57 J)).toArray)]) rfl rfl ?_
 refine GS.seq ?_
 refine GS.tz (fun A => [(0,pA I 0),(1,vI a1),(5,pA ((A 0).x) 0),(6,pA ((A 1).x) 0)]) (fun A => [(1,r3 d v),(2,r52 e z),(3,r80 a k),(4,r76 b l),(5,.rd c 46 []),(6,r3 j r),(7,.rd (some ⟨f,0,none⟩) 61 [(kc56 m n o G H j r.length E)]),(8,.rd (some ⟨I,0,none⟩) 17 [(kc55 n o t m u d v.length p B C D e z.length q a k.length g b l.length h c i f s)]),(9,.cells ((A 0).x) 57 (kc57 J)),(10,.cells ((A 1).x) 57 (kc29))]) [(0,{ act := .new .var,key := some 9 }),(1,{ act := .new .var,key := some 10 })] ?_
 intro A
 refine GS.seq ?_
 refine GS.tg (fun _ => [(0,pA I 0),(5,pA ((A 0).x) 0),(6,pA ((A 1).x) 0)]) (fun _ => [(1,r3 d v),(2,r52 e z),(3,r80 a k),(4,r76 b l),(5,.rd c 46 []),(6,r3 j r),(7,.rd (some ⟨f,0,none⟩) 61 [(kc56 m n o G H j r.length E)]),(8,.rd (some ⟨I,0,none⟩) 17 [(kc55 n o t m u d v.length p B C D e z.length q a k.length g b l.length h c i f s)]),(9,.cells ((A 0).x) 57 (kc58 m a1 J)),(10,.cells ((A 1).x) 57 (kc29))]) [(3,{ act := .load 8 0 3 [vI n,vI o,vI t,vI m,vI u,.slice d v.length p,vI B,vI C,vI D,.slice e z.length q,.slice a k.length g,.slice b l.length h,.slice c 0 i,pA f 0,.bool false,vI s,.bool true] }),(8,{ act := .store 0 0 [],key := some 9 }),(10,{ act := .store 0 0 [],key := some 9 })] (fun _ => [I = blk (some ⟨I,0,none⟩),3 = offs (some ⟨I,0,none⟩) + (0 * 17 + 3),([(kc55 n o t m u d v.length p B C D e z.length q a k.length g b l.length h c i f s)] : List (List Value))[0]? = some [vI n,vI o,vI t,vI m,vI u,.slice d v.length p,vI B,vI C,vI D,.slice e z.length q,.slice a k.length g,.slice b l.length h,.slice c 0 i,pA f 0,.bool false,vI s,.bool true],(A 0).x = (A 0).x,oC (.agg #[vI 2,vI m]),(A 0).x = (A 0).x,oC (.agg #[vI 2,vI a1])]) (fun _ => ⟨rfl,rfl,rfl,rfl,rfl,rfl,rfl,trivial⟩) ?_
 intro _
 refine GS.seq ?_
 refine GS.region (env' := fun _ => [(5,pA ((A 0).x) 0),(6,pA ((A 1).x) 0)]) (mem' := fun _ => [(9,.cells ((A 0).x) 57 (kc59 m a1 u t n o J)),(10,.cells ((A 1).x) 57 (kc29))]) (RunsTo.mkd [(3,{ act := .load 8 0 4 [vI n,vI o,vI t,vI m,vI u,.slice d v.length p,vI B,vI C,vI D,.slice e z.length q,.slice a k.length g,.slice b l.length h,.slice c 0 i,pA f 0,.bool false,vI s,.bool true] }),(7,{ act := .load 8 0 0 [vI n,vI o,vI t,vI m,vI u,.slice d v.length p,vI B,vI C,vI D,.slice e z.length q,.slice a k.length g,.slice b l.length h,.slice c 0 i,pA f 0,.bool false,vI s,.bool true] }),(11,{ act := .load 8 0 2 [vI n,vI o,vI t,vI m,vI u,.slice d v.length p,vI B,vI C,vI D,.slice e z.length q,.slice a k.length g,.slice b l.length h,.slice c 0 i,pA f 0,.bool false,vI s,.bool true] }),(13,{ act := .store 0 0 [],key := some 9 }),(15,{ act := .store 0 0 [],key := some 9 }),(17,{ act := .store 0 0 [],key := some 9 })] [5,6] [9,10] (fun _ => [I = blk (some ⟨I,0,none⟩),4 = offs (some ⟨I,0,none⟩) + (0 * 17 + 4),([(kc55 n o t m u d v.length p B C D e z.length q a k.length g b l.length h c i f s)] : List (List Value))[0]? = some [vI n,vI o,vI t,vI m,vI u,.slice d v.length p,vI B,vI C,vI D,.slice e z.length q,.slice a k.length g,.slice b l.length h,.slice c 0 i,pA f 0,.bool false,vI s,.bool true],I = blk (some ⟨I,0,none⟩),0 = offs (some ⟨I,0,none⟩) + (0 * 17 + 0),([(kc55 n o t m u d v.length p B C D e z.length q a k.length g b l.length h c i f s)] : List (List Value))[0]? = some [vI n,vI o,vI t,vI m,vI u,.slice d v.length p,vI B,vI C,vI D,.slice e z.length q,.slice a k.length g,.slice b l.length h,.slice c 0 i,pA f 0,.bool false,vI s,.bool true],I = blk (some ⟨I,0,none⟩),2 = offs (some ⟨I,0,none⟩) + (0 * 17 + 2),([(kc55 n o t m u d v.length p B C D e z.length q a k.length g b l.length h c i f s)] : List (List Value))[0]? = some [vI n,vI o,vI t,vI m,vI u,.slice d v.length p,vI B,vI C,vI D,.slice e z.length q,.slice a k.length g,.slice b l.length h,.slice c 0 i,pA f 0,.bool false,vI s,.bool true],(A 0).x = (A 0).x,oC (vI u),(A 0).x = (A 0).x,oC (.agg #[vI n,vI o]),(A 0).x = (A 0).x,oC (vI t)]) (by kernel_rfl) (by kernel_rfl) (fun _ => by kernel_rfl) (fun _ => ⟨rfl,rfl,rfl,rfl,rfl,rfl,rfl,rfl,rfl,rfl,rfl,rfl,rfl,rfl,rfl,trivial⟩)) ?_
 intro _
 refine GS.seq ?_
 refine GS.tg (fun _ => [(6,pA ((A 1).x) 0)]) (fun _ => [(10,.cells ((A 1).x) 57 (kc59 m a1 u t n o J))]) [(0,{ act := .load 9 0 0 [] }),(1,{ act := .store 0 0 [],key := some 10 })] (fun _ => [(A 0).x = (A 0).x,(A 1).x = (A 1).x,oC (.agg ((kc59 m a1 u t n o J)).toArray)]) (fun _ => ⟨rfl,rfl,rfl,trivial⟩) ?_
 intro _
 have hy := Option.some.inj hm
 subst hy
 refine GS.ret (fn := Try.f31) [10] [.agg ((kc59 m a1 u t n o J)).toArray] [(A 1).x = (A 1).x] rfl Try.func31 (by kernel_rfl) ⟨rfl,trivial⟩ (fun w' hs => ?_)
 exact ⟨(),rfl,hs.turnedG (ks := []) rfl rfl⟩

theorem w___primary_Machine__ask_2 (F I : Nat) (j k z l A : Int) (m : Option Addr) (u : Nat) (B : List Int) (E G H : Int) (n : Option Addr) (v : Nat) (C : List S_api_Entry) (g : Option Addr) (q : Nat) (o : List S_api_Last) (h : Option Addr) (r : Nat) (p : List S_api_Item) (i : Option Addr) (s e : Nat) (f b : Int) (a : Option Addr) (d : Nat) (c : List Int) (D a1 : Int) {y : Unit} (hm : m___primary_Machine__ask_2 F j k z l A B E G H C o p f b c D a1 = some y) : CallG Try.prog 47 #[pA I 0,vI a1] (X := Unit) (fun (_ : Unit) => .agg ((kc59 l a1 A z j k b)).toArray) [] [r3 m B,r52 n C,r80 g o,r76 h p,.rd i 46 [],r3 a c,.rd (some ⟨e,0,none⟩) 61 [(kc56 l j k f b a c.length d)],.rd (some ⟨I,0,none⟩) 17 [(kc55 j k z l A m B.length u E G H n C.length v g o.length q h p.length r i s e D)]] (fun (_ : Unit) => []) := by
 intro w hg
 rw [m___primary_Machine__ask_2] at hm
 refine GS.start (S := mayT [] [r3 m B,r52 n C,r80 g o,r76 h p,.rd i 46 [],r3 a c,.rd (some ⟨e,0,none⟩) 61 [(kc56 l j k f b a c.length d)],.rd (some ⟨I,0,none⟩) 17 [(kc55 j k z l A m B.length u E G H n C.length v g o.length q h p.length r i s e D)]]) (mem := [(1,r3 m B),(2,r52 n C),(3,r80 g o),(4,r76 h p),(5,.rd i 46 []),(6,r3 a c),(7,.rd (some ⟨e,0,none⟩) 61 [(kc56 l j k f b a c.length d)]),(8,.rd (some ⟨I,0,none⟩) 17 [(kc55 j k z l A m B.length u E G H n C.length v g o.length q h p.length r i s e D)])]) Try.func47 rfl Try.ntmps47 (Nat.le_of_ble_eq_true rfl) (hg.start rfl) ?_
 refine GS.conv (env' := [(0,pA I 0),(1,vI a1)]) rfl rfl ?_
 refine GS.seq ?_
 refine GS.tz (fun J => [(0,pA I 0),(1,vI a1),(4,pA ((J 0).x) 0)]) (fun J => [(1,r3 m B),(2,r52 n C),(3,r80 g o),(4,r76 h p),(5,.rd i 46 []),(6,r3 a c),(7,.rd (some ⟨e,0,none⟩) 61 [(kc56 l j k f b a c.length d)]),(8,.rd (some ⟨I,0,none⟩) 17 [(kc55 j k z l A m B.length u E G H n C.length v g o.length q h p.length r i s e D)]),(9,.cells ((J 0).x) 57 (kc29))]) [(0,{ act := .new .var,key := some 9 })] ?_
 intro J
 refine GS.seq ?_
 refine GS.tgM (fun _ => [(0,pA I 0),(1,vI a1),(4,pA ((J 0).x) 0),(5,pA e 0)]) [(3,{ act := .load 8 0 13 [vI j,vI k,vI z,vI l,vI A,.slice m B.length u,vI E,vI G,vI H,.slice n C.length v,.slice g o.length q,.slice h p.length r,.slice i 0 s,pA e 0,.bool false,vI D,.bool true] })] (fun _ => [I = blk (some ⟨I,0,none⟩),13 = offs (some ⟨I,0,none⟩) + (0 * 17 + 13),([(kc55 j k z l A m B.length u E G H n C.length v g o.length q h p.length r i s e D)] : List (List Value))[0]? = some [vI j,vI k,vI z,vI l,vI A,.slice m B.length u,vI E,vI G,vI H,.slice n C.length v,.slice g o.length q,.slice h p.length r,.slice i 0 s,pA e 0,.bool false,vI D,.bool true]]) (fun _ => ⟨rfl,rfl,rfl,trivial⟩) ?_
 intro _
 refine GS.seq ?_
 refine GS.seq ?_
 refine GS.tgM (fun _ => [(0,pA I 0),(1,vI a1),(4,pA ((J 0).x) 0),(5,pA e 0),(13,.bool false)]) [(3,{ act := .load 7 0 46 [vI 30,vI 3,vI 0,vI 2,vI l,vI 0,vI 0,vI j,vI k,vI 70,vI f,vI 0,.slice none 0 0,.slice none 0 0,.slice none 0 0,vI 0,vI 0,vI 0,vI 0,vI 0,vI 0,vI 0,vI 0,vI 0,.slice none 0 0,.slice none 0 0,.slice none 0 0,vI 0,vI 0,.bool false,vI 0,.string (ByteArray.mk #[]),vI 0,vI 0,.string (ByteArray.mk #[]),vI 0,vI 0,.slice none 0 0,vI 5,.string (ByteArray.mk #[]),.slice none 0 0,vI 0,vI 0,.slice none 0 0,.slice none 0 0,vI 0,.bool false,vI 0,vI 0,.bool false,vI 0,.string (ByteArray.mk #[]),vI 0,vI 0,.string (ByteArray.mk #[]),vI 0,vI 0,.slice none 0 0,vI b,.slice a c.length d,.bool false] })] (fun _ => [e = blk (some ⟨e,0,none⟩),46 = offs (some ⟨e,0,none⟩) + (0 * 61 + 46),([(kc56 l j k f b a c.length d)] : List (List Value))[0]? = some [vI 30,vI 3,vI 0,vI 2,vI l,vI 0,vI 0,vI j,vI k,vI 70,vI f,vI 0,.slice none 0 0,.slice none 0 0,.slice none 0 0,vI 0,vI 0,vI 0,vI 0,vI 0,vI 0,vI 0,vI 0,vI 0,.slice none 0 0,.slice none 0 0,.slice none 0 0,vI 0,vI 0,.bool false,vI 0,.string (ByteArray.mk #[]),vI 0,vI 0,.string (ByteArray.mk #[]),vI 0,vI 0,.slice none 0 0,vI 5,.string (ByteArray.mk #[]),.slice none 0 0,vI 0,vI 0,.slice none 0 0,.slice none 0 0,vI 0,.bool false,vI 0,vI 0,.bool false,vI 0,.string (ByteArray.mk #[]),vI 0,vI 0,.string (ByteArray.mk #[]),vI 0,vI 0,.slice none 0 0,vI b,.slice a c.length d,.bool false]]) (fun _ => ⟨rfl,rfl,rfl,trivial⟩) ?_
 intro _
 refine GS.cond (t := false) rfl rfl (fun hf => by cases hf) (fun _ => ?_)
 refine GS.skip ?_
 refine GS.seq ?_
 refine bnd_elim hm (fun y5 e6 hm => ?_)
 refine GS.tg (fun _ => [(4,pA ((J 0).x) 0)]) (fun _ => [(9,.cells ((J 0).x) 57 (kc59 l a1 A z j k b))]) [(5,{ act := .load 7 0 58 [vI 30,vI 3,vI 0,vI 2,vI l,vI 0,vI 0,vI j,vI k,vI 70,vI f,vI 0,.slice none 0 0,.slice none 0 0,.slice none 0 0,vI 0,vI 0,vI 0,vI 0,vI 0,vI 0,vI 0,vI 0,vI 0,.slice none 0 0,.slice none 0 0,.slice none 0 0,vI 0,vI 0,.bool false,vI 0,.string (ByteArray.mk #[]),vI 0,vI 0,.string (ByteArray.mk #[]),vI 0,vI 0,.slice none 0 0,vI 5,.string (ByteArray.mk #[]),.slice none 0 0,vI 0,vI 0,.slice none 0 0,.slice none 0 0,vI 0,.bool false,vI 0,vI 0,.bool false,vI 0,.string (ByteArray.mk #[]),vI 0,vI 0,.string (ByteArray.mk #[]),vI 0,vI 0,.slice none 0 0,vI b,.slice a c.length d,.bool false] }),(7,{ act := .call [1,2,3,4,5,6,7,8] (.agg ((kc59 l a1 A z j k b)).toArray) }),(8,{ act := .store 0 0 [],key := some 9 })] (fun _ => [e = blk (some ⟨e,0,none⟩),58 = offs (some ⟨e,0,none⟩) + (0 * 61 + 58),([(kc56 l j k f b a c.length d)] : List (List Value))[0]? = some [vI 30,vI 3,vI 0,vI 2,vI l,vI 0,vI 0,vI j,vI k,vI 70,vI f,vI 0,.slice none 0 0,.slice none 0 0,.slice none 0 0,vI 0,vI 0,vI 0,vI 0,vI 0,vI 0,vI 0,vI 0,vI 0,.slice none 0 0,.slice none 0 0,.slice none 0 0,vI 0,vI 0,.bool false,vI 0,.string (ByteArray.mk #[]),vI 0,vI 0,.string (ByteArray.mk #[]),vI 0,vI 0,.slice none 0 0,vI 5,.string (ByteArray.mk #[]),.slice none 0 0,vI 0,vI 0,.slice none 0 0,.slice none 0 0,vI 0,.bool false,vI 0,vI 0,.bool false,vI 0,.string (ByteArray.mk #[]),vI 0,vI 0,.string (ByteArray.mk #[]),vI 0,vI 0,.slice none 0 0,vI b,.slice a c.length d,.bool false],CallOK Try.prog 31 #[pA I 0,vI a1,.agg ((kc57 b)).toArray] (.agg ((kc59 l a1 A z j k b)).toArray) [some (r3 m B),some (r52 n C),some (r80 g o),some (r76 h p),some (.rd i 46 []),some (r3 a c),some (.rd (some ⟨e,0,none⟩) 61 [(kc56 l j k f b a c.length d)]),some (.rd (some ⟨I,0,none⟩) 17 [(kc55 j k z l A m B.length u E G H n C.length v g o.length q h p.length r i s e D)])],(J 0).x = (J 0).x,oC (.agg ((kc59 l a1 A z j k b)).toArray)]) (fun _ => ⟨rfl,rfl,rfl,(by have h1 := w___primary_Machine__to_3 F I j k z l A m u B E G H n v C g q o h r p i s e f b a d c D a1 b e6; exact h1.ok ⟨(.inl ⟨r3 m B,.head _,Cov.refl _⟩),(.inl ⟨r52 n C,(.tail _ (.head _)),Cov.refl _⟩),(.inl ⟨r80 g o,(.tail _ (.tail _ (.head _))),Cov.refl _⟩),(.inl ⟨r76 h p,(.tail _ (.tail _ (.tail _ (.head _)))),Cov.refl _⟩),(.inl ⟨.rd i 46 [],(.tail _ (.tail _ (.tail _ (.tail _ (.head _))))),Cov.refl _⟩),(.inl ⟨r3 a c,(.tail _ (.tail _ (.tail _ (.tail _ (.tail _ (.head _)))))),Cov.refl _⟩),(.inl ⟨.rd (some ⟨e,0,none⟩) 61 [(kc56 l j k f b a c.length d)],(.tail _ (.tail _ (.tail _ (.tail _ (.tail _ (.tail _ (.head _))))))),Cov.refl _⟩),(.inl ⟨.rd (some ⟨I,0,none⟩) 17 [(kc55 j k z l A m B.length u E G H n C.length v g o.length q h p.length r i s e D)],(.tail _ (.tail _ (.tail _ (.tail _ (.tail _ (.tail _ (.tail _ (.head _)))))))),Cov.refl _⟩),trivial⟩),rfl,rfl,trivial⟩) ?_
 intro _
 have hy := Option.some.inj hm
 subst hy
 refine GS.ret (fn := Try.f47) [9] [.agg ((kc59 l a1 A z j k b)).toArray] [(J 0).x = (J 0).x] rfl Try.func47 (by kernel_rfl) ⟨rfl,trivial⟩ (fun w' hs => ?_)
 exact ⟨(),rfl,hs.turnedG (ks := []) rfl rfl⟩

theorem w___primary_Machine__done_3 (F O : Nat) (p q I r J : Int) (k : Option Addr) (A : Nat) (D : List Int) (K L M : Int) (l : Option Addr) (B : Nat) (E : List S_api_Entry) (e : Option Addr) (s : Nat) (n : List S_api_Last) (f : Option Addr) (u : Nat) (o : List S_api_Item) (g : Option Addr) (v c : Nat) (i j : Int) (a : Option Addr) (h : Nat) (b : List Int) (G H : Int) (d : Option Addr) (z : Nat) (m : List S_api_Msg_n) {y : Unit} (hm : m___primary_Machine__done_3 F p q I r J D K L M E n o i j b G H m = some y) : CallG Try.prog 29 #[pA O 0,.agg ((kc62 H d m.length z)).toArray] (X := Unit) (fun (_ : Unit) => .agg ((kc62 H d m.length z)).toArray) [] [r3 k D,r52 l E,r80 e n,r76 f o,.rd g 46 [],r3 a b,.rd (some ⟨c,0,none⟩) 61 [(kc56 r p q i j a b.length h)],.rd (some ⟨O,0,none⟩) 17 [(kc55 p q I r J k D.length A K L M l E.length B e n.length s f o.length u g v c G)],r57 d m] (fun (_ : Unit) => []) := by
 intro w hg
 rw [m___primary_Machine__done_3] at hm
 refine GS.start (S := mayT [] [r3 k D,r52 l E,r80 e n,r76 f o,.rd g 46 [],r3 a b,.rd (some ⟨c,0,none⟩) 61 [(kc56 r p q i j a b.length h)],.rd (some ⟨O,0,none⟩) 17 [(kc55 p q I r J k D.length A K L M l E.length B e n.length s f o.length u g v c G)],r57 d m]) (mem := [(1,r3 k D),(2,r52 l E),(3,r80 e n),(4,r76 f o),(5,.rd g 46 []),(6,r3 a b),(7,.rd (some ⟨c,0,none⟩) 61 [(kc56 r p q i j a b.length h)]),(8,.rd (some ⟨O,0,none⟩) 17 [(kc55 p q I r J k D.length A K L M l E.length B e n.length s f o.length u g v c G)]),(9,r57 d m)]) Try.func29 rfl Try.ntmps29 (Nat.le_of_ble_eq_true rfl) (hg.start rfl) ?_
 refine GS.conv (env' := [(0,pA O 0),(1,.agg ((kc62 H d m.length z)).toArray)]) rfl rfl ?_
 refine GS.seq ?_
 refine GS.tz (fun C => [(0,pA O 0),(3,pA ((C 0).x) 0),(4,pA ((C 1).x) 0)]) (fun C => [(1,r3 k D),(2,r52 l E),(3,r80 e n),(4,r76 f o),(5,.rd g 46 []),(6,r3 a b),(7,.rd (some ⟨c,0,none⟩) 61 [(kc56 r p q i j a b.length h)]),(8,.rd (some ⟨O,0,none⟩) 17 [(kc55 p q I r J k D.length A K L M l E.length B e n.length s f o.length u g v c G)]),(9,r57 d m),(10,.cells ((C 0).x) 60 (kc62 H d m.length z)),(11,.cells ((C 1).x) 60 (kc9))]) [(0,{ act := .new .var,key := some 10 }),(1,{ act := .new .var,key := some 11 })] ?_
 intro C
 refine GS.seq ?_
 refine GS.tgM (fun _ => [(0,pA O 0),(3,pA ((C 0).x) 0),(4,pA ((C 1).x) 0),(5,pA c 0)]) [(3,{ act := .load 8 0 13 [vI p,vI q,vI I,vI r,vI J,.slice k D.length A,vI K,vI L,vI M,.slice l E.length B,.slice e n.length s,.slice f o.length u,.slice g 0 v,pA c 0,.bool false,vI G,.bool true] })] (fun _ => [O = blk (some ⟨O,0,none⟩),13 = offs (some ⟨O,0,none⟩) + (0 * 17 + 13),([(kc55 p q I r J k D.length A K L M l E.length B e n.length s f o.length u g v c G)] : List (List Value))[0]? = some [vI p,vI q,vI I,vI r,vI J,.slice k D.length A,vI K,vI L,vI M,.slice l E.length B,.slice e n.length s,.slice f o.length u,.slice g 0 v,pA c 0,.bool false,vI G,.bool true]]) (fun _ => ⟨rfl,rfl,rfl,trivial⟩) ?_
 intro _
 refine GS.seq ?_
 refine GS.seq ?_
 refine GS.tgM (fun _ => [(0,pA O 0),(3,pA ((C 0).x) 0),(4,pA ((C 1).x) 0),(5,pA c 0),(25,.bool (decide ((b.length : Int) > 0)))]) [(6,{ act := .load 7 0 59 [vI 30,vI 3,vI 0,vI 2,vI r,vI 0,vI 0,vI p,vI q,vI 70,vI i,vI 0,.slice none 0 0,.slice none 0 0,.slice none 0 0,vI 0,vI 0,vI 0,vI 0,vI 0,vI 0,vI 0,vI 0,vI 0,.slice none 0 0,.slice none 0 0,.slice none 0 0,vI 0,vI 0,.bool false,vI 0,.string (ByteArray.mk #[]),vI 0,vI 0,.string (ByteArray.mk #[]),vI 0,vI 0,.slice none 0 0,vI 5,.string (ByteArray.mk #[]),.slice none 0 0,vI 0,vI 0,.slice none 0 0,.slice none 0 0,vI 0,.bool false,vI 0,vI 0,.bool false,vI 0,.string (ByteArray.mk #[]),vI 0,vI 0,.string (ByteArray.mk #[]),vI 0,vI 0,.slice none 0 0,vI j,.slice a b.length h,.bool false] })] (fun _ => [c = blk (some ⟨c,0,none⟩),59 = offs (some ⟨c,0,none⟩) + (0 * 61 + 59),([(kc56 r p q i j a b.length h)] : List (List Value))[0]? = some [vI 30,vI 3,vI 0,vI 2,vI r,vI 0,vI 0,vI p,vI q,vI 70,vI i,vI 0,.slice none 0 0,.slice none 0 0,.slice none 0 0,vI 0,vI 0,vI 0,vI 0,vI 0,vI 0,vI 0,vI 0,vI 0,.slice none 0 0,.slice none 0 0,.slice none 0 0,vI 0,vI 0,.bool false,vI 0,.string (ByteArray.mk #[]),vI 0,vI 0,.string (ByteArray.mk #[]),vI 0,vI 0,.slice none 0 0,vI 5,.string (ByteArray.mk #[]),.slice none 0 0,vI 0,vI 0,.slice none 0 0,.slice none 0 0,vI 0,.bool false,vI 0,vI 0,.bool false,vI 0,.string (ByteArray.mk #[]),vI 0,vI 0,.string (ByteArray.mk #[]),vI 0,vI 0,.slice none 0 0,vI j,.slice a b.length h,.bool false]]) (fun _ => ⟨rfl,rfl,rfl,trivial⟩) ?_
 intro _
 refine grd_elim hm (fun g4 hm => ?_)
 refine GS.cond (t := decide ((b.length : Int) > 0)) rfl rfl (fun _ => ?_) (fun h5 => absb (g4) h5)
 refine GS.seq ?_
 refine GS.tg (fun _ => [(4,pA ((C 1).x) 0)]) (fun _ => [(9,r57 d m),(11,.cells ((C 1).x) 60 (kc62 H d m.length z))]) [(0,{ act := .load 10 0 0 [] }),(1,{ act := .store 0 0 [],key := some 11 })] (fun _ => [(C 0).x = (C 0).x,(C 1).x = (C 1).x,oC (.agg ((kc62 H d m.length z)).toArray)]) (fun _ => ⟨rfl,rfl,rfl,trivial⟩) ?_
 intro _
 have hy := Option.some.inj hm
 subst hy
 refine GS.ret (fn := Try.f29) [11] [.agg ((kc62 H d m.length z)).toArray] [(C 1).x = (C 1).x] rfl Try.func29 (by kernel_rfl) ⟨rfl,trivial⟩ (fun w' hs => ?_)
 exact ⟨(),rfl,hs.turnedG (ks := []) rfl rfl⟩

end Go.Proofs.Ytjnbkhnebmlilaa
