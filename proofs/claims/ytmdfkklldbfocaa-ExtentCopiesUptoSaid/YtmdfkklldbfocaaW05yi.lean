/-
  CHAPTER 05y: the functions do what their models say (9).
-/
import Derived.Test.YtmdfkklldbfocaaM05y
import Derived.Test.YtmdfkklldbfocaaW05ya
import Derived.Test.YtmdfkklldbfocaaW05yc
import Derived.Test.YtmdfkklldbfocaaW05yd
import Derived.Test.YtmdfkklldbfocaaW05ye
set_option linter.unusedVariables false
set_option linter.unusedSimpArgs false
set_option maxRecDepth 100000
set_option maxHeartbeats 8000000
namespace Go.Proofs.Ytmdfkklldbfocaa
open Go Go.RowKit Sx

theorem w_tholelaw05_lives (F : Nat) {y : Bool} (hm : m_tholelaw05_lives F = some y) : CallG Try.prog 10 #[] (X := Unit) (fun (_ : Unit) => .bool y) [] [] (fun (_ : Unit) => []) := by
  intro w hg
  rw [m_tholelaw05_lives] at hm
  refine GS.start (S := mayT [] []) (mem := []) Try.func10 rfl Try.ntmps10 (Nat.le_of_ble_eq_true rfl) (hg.start rfl) ?_
  refine GS.conv (env' := []) rfl rfl ?_
  refine GS.seq ?_
  refine GS.rzM (fun _ => []) [] [] [] (fun _ => by kernel_rfl) ?_
  intro _
  refine GS.seq ?_
  refine bnd_elim hm (fun y3 e4 hm => ?_)
  refine GS.open_ ?_
  refine GR.callG (X := Nat) (i := 0) (g := 8) (ro := []) (mem' := fun (x5 : Nat) => [(1,.cells x5 56 [.bool true,.pointer none,vI y3])]) (env' := fun (x5 : Nat) => [(5,pA x5 0)]) [] [1] [5] [1] false (by kernel_rfl) (by kernel_rfl) (by kernel_rfl) (by kernel_rfl) (by kernel_rfl) (fun _ => rfl) (fun _ _ => rfl) trivial (by rintro x5; kernel_rfl) (by rintro x5; kernel_rfl) (w_extent_New F  e4) ?_
  rintro x5
  refine GR.rM (i := 1) 1 (env' := fun _ => [(1,pA x5 0)]) (by kernel_rfl) (RunsTo.mk [] [1] [1] (fun _ => []) (fun _ => by kernel_rfl) (fun _ => trivial)) ?_
  intro _
  refine GR.dn (by kernel_rfl) ?_
  refine GS.seq ?_
  refine GS.seq ?_
  refine GS.rzM (fun _ => [(1,pA x5 0),(7,.bool false)]) [] [1,7] [1] (fun _ => by kernel_rfl) ?_
  intro _
  refine GS.cond (t := false) rfl rfl (fun hf => by cases hf) (fun _ => ?_)
  refine GS.skip ?_
  refine GS.seq ?_
  refine GS.setMem (mem' := [(1,.cells x5 56 [.bool true,.pointer none,vI y3]),(2,bag (sgs 59 nX59 (fun _ => nilH) none ([] : List S_extent_run))),(3,Ent.all (nins nJ59 (fun _ => nilH) ([] : List S_extent_run)))]) (fun w hw => ch_nil (α := S_extent_run) (k := 2) (ik := 3) (T := 59) (X := nX59) (h := fun _ => nilH) (q := none) (J := nJ59) (h2 := fun _ => nilH) [1,2,3] hw (by kernel_rfl)) ?_
  refine GS.conv (env' := [(1,pA x5 0),(7,.bool false)]) (mem' := [(1,.cells x5 56 [.bool true,.pointer (sgp (fun _ => nilH) none ([] : List S_extent_run)),vI y3]),(2,bag (sgs 59 nX59 (fun _ => nilH) none ([] : List S_extent_run))),(3,Ent.all (nins nJ59 (fun _ => nilH) ([] : List S_extent_run)))]) (rfl) (rfl) ?_
  refine bnd_elim hm (fun y9 B hm => ?_)
  refine GS.open_ ?_
  refine GR.ru (i := 0) 3 (env' := fun l => [(1,pA x5 0),(8,pA x5 0),(10,.slice (some (Addr.mk (l 1).x 0 none)) ([(97 : UInt8),(98 : UInt8)].length) 2)]) (mem' := fun l => [(1,.cells x5 56 [.bool true,.pointer (sgp (fun _ => nilH) none ([] : List S_extent_run)),vI y3]),(2,bag (sgs 59 nX59 (fun _ => nilH) none ([] : List S_extent_run))),(3,Ent.all (nins nJ59 (fun _ => nilH) ([] : List S_extent_run))),(4,.osl (some (Addr.mk (l 1).x 0 none)) 2 5 1 ([[.int .u8 97],[.int .u8 98]] : List (List Value)))]) (by kernel_rfl) (RunsTo.mk [(1,{ act := .new (.row 2 1),key := some 4,spf := some (fun f => .slice (some (Addr.mk f.x 0 none)) ([(97 : UInt8),(98 : UInt8)].length) 2) }),(2,{ act := .markS,key := some 4 })] [1,8,10] [1,2,3,4] (fun l => [((.slice (some (Addr.mk (l 1).x 0 none)) 2 2) : Value) = .slice (some (Addr.mk (l 1).x 0 none)) ([(97 : UInt8),(98 : UInt8)].length) 2,(some (Addr.mk (l 1).x 0 none)) = (some (Addr.mk (l 1).x 0 none)),2 ≠ 0]) (fun l => by kernel_rfl) (fun l => ⟨rfl,rfl,(by decide),trivial⟩)) ?_
  intro l
  refine GR.conv (mem' := [(1,.cells x5 56 [.bool true,.pointer (sgp (fun _ => nilH) none ([] : List S_extent_run)),vI y3]),(2,bag (sgs 59 nX59 (fun _ => nilH) none ([] : List S_extent_run))),(3,Ent.all (nins nJ59 (fun _ => nilH) ([] : List S_extent_run))),(4,o5 (some (Addr.mk (l 1).x 0 none)) 2 [(97 : UInt8),(98 : UInt8)])]) rfl (congrArg (fun rr : List (List Value) => ([(1,.cells x5 56 [.bool true,.pointer (sgp (fun _ => nilH) none ([] : List S_extent_run)),vI y3]),(2,bag (sgs 59 nX59 (fun _ => nilH) none ([] : List S_extent_run))),(3,Ent.all (nins nJ59 (fun _ => nilH) ([] : List S_extent_run))),(4,.osl (some (Addr.mk (l 1).x 0 none)) 2 5 1 rr)] : List (Nat × Ent))) (show ([[.int .u8 97],[.int .u8 98]] : List (List Value)) = List.map rB [(97 : UInt8),(98 : UInt8)] from rfl)) ?_
  refine GR.callB (X := Hds) (i := 3) (g := 9) (ro := [Ent.all (nins nJ59 (fun _ => nilH) ([] : List S_extent_run))]) (rb := [r5 (some (Addr.mk (l 1).x 0 none)) [(97 : UInt8),(98 : UInt8)]]) (mem' := fun (e : Hds) => [(1,.cells x5 56 [.bool true,.pointer (sgp e none y9.2.1),vI y9.2.2]),(3,Ent.all (nins nJ59 (fun _ => nilH) ([] : List S_extent_run))),(4,o5 (some (Addr.mk (l 1).x 0 none)) 2 [(97 : UInt8),(98 : UInt8)]),(5,bag (sgs 59 nX59 e none y9.2.1)),(6,Ent.all (nins nJ59 e y9.2.1))]) (env' := fun (e : Hds) => [(1,pA x5 0),(11,vI y9.1)]) [2,1] [5,6,1] [1,11] [1,3,4,5,6] true (by kernel_rfl) (by kernel_rfl) (by kernel_rfl) (by kernel_rfl) (by kernel_rfl) (fun _ => rfl) (fun h => by cases h) ⟨(.inl ⟨3,_,rfl,rfl,Cov.refl _,fun _ => rfl⟩),trivial⟩ ⟨(.inl ⟨4,_,rfl,rfl,Cov.osl_rd,fun h => by cases h⟩),trivial⟩ (by rintro e; kernel_rfl) (by rintro e; kernel_rfl) (w___extent_Map__Write F x5 (fun _ => nilH) ([] : List S_extent_run) y3 2 (some (Addr.mk (l 1).x 0 none)) 2 [(97 : UInt8),(98 : UInt8)] B) ?_
  rintro e
  refine GR.ru (i := 4) 1 (env' := fun _ => [(1,pA x5 0),(2,vI y9.1)]) (mem' := fun _ => [(1,.cells x5 56 [.bool true,.pointer (sgp e none y9.2.1),vI y9.2.2]),(5,bag (sgs 59 nX59 e none y9.2.1)),(6,Ent.all (nins nJ59 e y9.2.1))]) (by kernel_rfl) (RunsTo.mk [] [1,2] [1,5,6] (fun _ => []) (fun _ => by kernel_rfl) (fun _ => trivial)) ?_
  intro _
  refine GR.dn (by kernel_rfl) ?_
  refine GS.seq ?_
  refine bnd_elim hm (fun j C hm => ?_)
  refine GS.open_ ?_
  refine GR.ru (i := 0) 3 (env' := fun c => [(1,pA x5 0),(2,vI y9.1),(12,pA x5 0),(14,.slice (some (Addr.mk (c 1).x 0 none)) ([(99 : UInt8),(100 : UInt8)].length) 2)]) (mem' := fun c => [(1,.cells x5 56 [.bool true,.pointer (sgp e none y9.2.1),vI y9.2.2]),(5,bag (sgs 59 nX59 e none y9.2.1)),(6,Ent.all (nins nJ59 e y9.2.1)),(7,.osl (some (Addr.mk (c 1).x 0 none)) 2 5 1 ([[.int .u8 99],[.int .u8 100]] : List (List Value)))]) (by kernel_rfl) (RunsTo.mk [(1,{ act := .new (.row 2 1),key := some 7,spf := some (fun f => .slice (some (Addr.mk f.x 0 none)) ([(99 : UInt8),(100 : UInt8)].length) 2) }),(2,{ act := .markS,key := some 7 })] [1,2,12,14] [1,5,6,7] (fun c => [((.slice (some (Addr.mk (c 1).x 0 none)) 2 2) : Value) = .slice (some (Addr.mk (c 1).x 0 none)) ([(99 : UInt8),(100 : UInt8)].length) 2,(some (Addr.mk (c 1).x 0 none)) = (some (Addr.mk (c 1).x 0 none)),2 ≠ 0]) (fun c => by kernel_rfl) (fun c => ⟨rfl,rfl,(by decide),trivial⟩)) ?_
  intro c
  refine GR.conv (mem' := [(1,.cells x5 56 [.bool true,.pointer (sgp e none y9.2.1),vI y9.2.2]),(5,bag (sgs 59 nX59 e none y9.2.1)),(6,Ent.all (nins nJ59 e y9.2.1)),(7,o5 (some (Addr.mk (c 1).x 0 none)) 2 [(99 : UInt8),(100 : UInt8)])]) rfl (congrArg (fun rr : List (List Value) => ([(1,.cells x5 56 [.bool true,.pointer (sgp e none y9.2.1),vI y9.2.2]),(5,bag (sgs 59 nX59 e none y9.2.1)),(6,Ent.all (nins nJ59 e y9.2.1)),(7,.osl (some (Addr.mk (c 1).x 0 none)) 2 5 1 rr)] : List (Nat × Ent))) (show ([[.int .u8 99],[.int .u8 100]] : List (List Value)) = List.map rB [(99 : UInt8),(100 : UInt8)] from rfl)) ?_
  refine GR.callB (X := Hds) (i := 3) (g := 9) (ro := [Ent.all (nins nJ59 e y9.2.1)]) (rb := [r5 (some (Addr.mk (c 1).x 0 none)) [(99 : UInt8),(100 : UInt8)]]) (mem' := fun (n : Hds) => [(1,.cells x5 56 [.bool true,.pointer (sgp n none j.2.1),vI j.2.2]),(6,Ent.all (nins nJ59 e y9.2.1)),(7,o5 (some (Addr.mk (c 1).x 0 none)) 2 [(99 : UInt8),(100 : UInt8)]),(8,bag (sgs 59 nX59 n none j.2.1)),(9,Ent.all (nins nJ59 n j.2.1))]) (env' := fun (n : Hds) => [(1,pA x5 0),(2,vI y9.1),(15,vI j.1)]) [5,1] [8,9,1] [1,2,15] [1,6,7,8,9] true (by kernel_rfl) (by kernel_rfl) (by kernel_rfl) (by kernel_rfl) (by kernel_rfl) (fun _ => rfl) (fun h => by cases h) ⟨(.inl ⟨6,_,rfl,rfl,Cov.refl _,fun _ => rfl⟩),trivial⟩ ⟨(.inl ⟨7,_,rfl,rfl,Cov.osl_rd,fun h => by cases h⟩),trivial⟩ (by rintro n; kernel_rfl) (by rintro n; kernel_rfl) (w___extent_Map__Write F x5 e y9.2.1 y9.2.2 4 (some (Addr.mk (c 1).x 0 none)) 2 [(99 : UInt8),(100 : UInt8)] C) ?_
  rintro n
  refine GR.ru (i := 4) 1 (env' := fun _ => [(1,pA x5 0),(2,vI y9.1),(3,vI j.1)]) (mem' := fun _ => [(1,.cells x5 56 [.bool true,.pointer (sgp n none j.2.1),vI j.2.2]),(8,bag (sgs 59 nX59 n none j.2.1)),(9,Ent.all (nins nJ59 n j.2.1))]) (by kernel_rfl) (RunsTo.mk [] [1,2,3] [1,8,9] (fun _ => []) (fun _ => by kernel_rfl) (fun _ => trivial)) ?_
  intro _
  refine GR.dn (by kernel_rfl) ?_
  refine GS.seq ?_
  refine bnd_elim hm (fun a D hm => ?_)
  refine GS.open_ ?_
  refine GR.rM (i := 0) 1 (env' := fun _ => [(1,pA x5 0),(2,vI y9.1),(3,vI j.1),(16,pA x5 0)]) (by kernel_rfl) (RunsTo.mk [] [1,2,3,16] [1,8,9] (fun _ => []) (fun _ => by kernel_rfl) (fun _ => trivial)) ?_
  intro _
  refine GR.callG (X := Hds) (i := 1) (g := 13) (ro := [Ent.all (nins nJ59 n j.2.1)]) (mem' := fun (b : Hds) => [(1,.cells x5 56 [.bool true,.pointer (sgp b none a.2.1),vI a.2.2]),(9,Ent.all (nins nJ59 n j.2.1)),(10,bag (sgs 59 nX59 b none a.2.1)),(11,Ent.all (nins nJ59 b a.2.1))]) (env' := fun (b : Hds) => [(1,pA x5 0),(2,vI y9.1),(3,vI j.1),(17,vI a.1)]) [8,1] [10,11,1] [1,2,3,17] [1,9,10,11] true (by kernel_rfl) (by kernel_rfl) (by kernel_rfl) (by kernel_rfl) (by kernel_rfl) (fun _ => rfl) (fun h => by cases h) ⟨(.inl ⟨9,_,rfl,rfl,Cov.refl _,fun _ => rfl⟩),trivial⟩ (by rintro b; kernel_rfl) (by rintro b; kernel_rfl) (w___extent_Map__Zero F x5 n j.2.1 j.2.2 3 2 D) ?_
  rintro b
  refine GR.ru (i := 2) 1 (env' := fun _ => [(1,pA x5 0),(2,vI y9.1),(3,vI j.1),(4,vI a.1)]) (mem' := fun _ => [(1,.cells x5 56 [.bool true,.pointer (sgp b none a.2.1),vI a.2.2]),(10,bag (sgs 59 nX59 b none a.2.1)),(11,Ent.all (nins nJ59 b a.2.1))]) (by kernel_rfl) (RunsTo.mk [] [1,2,3,4] [1,10,11] (fun _ => []) (fun _ => by kernel_rfl) (fun _ => trivial)) ?_
  intro _
  refine GR.dn (by kernel_rfl) ?_
  refine GS.seq ?_
  refine br_elim hm (fun u hm => ?_) (fun u hm => ?_)
  · skip
    refine br_elim hm (fun v hm => ?_) (fun v hm => ?_)
    · skip
      refine br_elim hm (fun z hm => ?_) (fun z hm => ?_)
      · skip
        refine bnd_elim hm (fun m E hm => ?_)
        refine GS.open_ ?_
        refine GR.rM (i := 0) 12 (env' := fun _ => [(1,pA x5 0),(28,.bool true),(29,pA x5 0)]) (by kernel_rfl) (RunsTo.mk [(2,{ sp := some (.bool true) }),(6,{ sp := some (.bool true) }),(10,{ sp := some (.bool true) })] [1,28,29] [1,10,11] (fun _ => [((.bool (y9.1 == 0)) : Value) = .bool true,((.bool (j.1 == 0)) : Value) = .bool true,((.bool (a.1 == 0)) : Value) = .bool true]) (fun _ => by kernel_rfl) (fun _ => ⟨bool_eq u,bool_eq v,bool_eq z,trivial⟩)) ?_
        intro _
        refine GR.callG (X := Option Addr × Nat) (i := 12) (g := 17) (ro := [Ent.all (sgs 59 nX59 b none a.2.1),Ent.all (nins nJ59 b a.2.1),.rd (some ⟨x5,0,none⟩) 3 ([[.bool true,.pointer (sgp b none a.2.1),vI a.2.2]] : List (List Value))]) (mem' := fun ⟨o,s⟩ => [(1,.cells x5 56 [.bool true,.pointer (sgp b none a.2.1),vI a.2.2]),(10,bag (sgs 59 nX59 b none a.2.1)),(11,Ent.all (nins nJ59 b a.2.1)),(12,o5 o s m)]) (env' := fun ⟨o,s⟩ => [(1,pA x5 0),(28,.bool true),(30,.slice o m.length s)]) [] [12] [1,28,30] [1,10,11,12] false (by kernel_rfl) (by kernel_rfl) (by kernel_rfl) (by kernel_rfl) (by kernel_rfl) (fun _ => rfl) (fun _ _ => rfl) ⟨(.inl ⟨10,_,rfl,rfl,Cov.chr,fun h => by cases h⟩),(.inl ⟨11,_,rfl,rfl,Cov.refl _,fun h => by cases h⟩),(.inl ⟨1,_,rfl,rfl,Cov.cells_rd,fun h => by cases h⟩),trivial⟩ (by rintro ⟨o,s⟩; kernel_rfl) (by rintro ⟨o,s⟩; kernel_rfl) (w___extent_Map__Bytes F x5 b a.2.1 a.2.2 E) ?_
        rintro ⟨o,s⟩
        refine br_elim hm (fun A hm => ?_) (fun A hm => ?_)
        · skip
          refine bnd_elim hm (fun p G hm => ?_)
          refine GR.ru (i := 13) 7 (env' := fun d => [(34,.bool true),(35,pA x5 0),(37,.slice (some (Addr.mk (d 18).x 0 none)) ([(120 : UInt8)].length) 1)]) (mem' := fun d => [(1,.cells x5 56 [.bool true,.pointer (sgp b none a.2.1),vI a.2.2]),(10,bag (sgs 59 nX59 b none a.2.1)),(11,Ent.all (nins nJ59 b a.2.1)),(13,.osl (some (Addr.mk (d 18).x 0 none)) 1 5 1 ([[.int .u8 120]] : List (List Value)))]) (by kernel_rfl) (RunsTo.mk [(13,{ act := .text 12 m }),(16,{ sp := some (.bool true) }),(18,{ act := .new (.row 1 1),key := some 13,spf := some (fun f => .slice (some (Addr.mk f.x 0 none)) ([(120 : UInt8)].length) 1) }),(19,{ act := .markS,key := some 13 })] [34,35,37] [1,10,11,13] (fun d => [o = o,m.length = (List.map rB m).length,List.map rB m = encB m,((.bool ((ByteArray.mk m.toArray).toList == (ByteArray.mk #[0,0,97,0,0,100]).toList)) : Value) = .bool true,((.slice (some (Addr.mk (d 18).x 0 none)) 1 1) : Value) = .slice (some (Addr.mk (d 18).x 0 none)) ([(120 : UInt8)].length) 1,(some (Addr.mk (d 18).x 0 none)) = (some (Addr.mk (d 18).x 0 none)),1 ≠ 0]) (fun d => by kernel_rfl) (fun d => ⟨rfl,mlen rB m,rfl,bool_eq A,rfl,rfl,(by decide),trivial⟩)) ?_
          intro d
          refine GR.conv (mem' := [(1,.cells x5 56 [.bool true,.pointer (sgp b none a.2.1),vI a.2.2]),(10,bag (sgs 59 nX59 b none a.2.1)),(11,Ent.all (nins nJ59 b a.2.1)),(13,o5 (some (Addr.mk (d 18).x 0 none)) 1 [(120 : UInt8)])]) rfl (congrArg (fun rr : List (List Value) => ([(1,.cells x5 56 [.bool true,.pointer (sgp b none a.2.1),vI a.2.2]),(10,bag (sgs 59 nX59 b none a.2.1)),(11,Ent.all (nins nJ59 b a.2.1)),(13,.osl (some (Addr.mk (d 18).x 0 none)) 1 5 1 rr)] : List (Nat × Ent))) (show ([[.int .u8 120]] : List (List Value)) = List.map rB [(120 : UInt8)] from rfl)) ?_
          refine GR.callB (X := Hds) (i := 20) (g := 9) (ro := [Ent.all (nins nJ59 b a.2.1)]) (rb := [r5 (some (Addr.mk (d 18).x 0 none)) [(120 : UInt8)]]) (mem' := fun (r : Hds) => [(1,.cells x5 56 [.bool true,.pointer (sgp r none p.2.1),vI p.2.2]),(11,Ent.all (nins nJ59 b a.2.1)),(13,o5 (some (Addr.mk (d 18).x 0 none)) 1 [(120 : UInt8)]),(14,bag (sgs 59 nX59 r none p.2.1)),(15,Ent.all (nins nJ59 r p.2.1))]) (env' := fun (r : Hds) => [(34,.bool true),(38,vI p.1)]) [10,1] [14,15,1] [34,38] [1,11,13,14,15] true (by kernel_rfl) (by kernel_rfl) (by kernel_rfl) (by kernel_rfl) (by kernel_rfl) (fun _ => rfl) (fun h => by cases h) ⟨(.inl ⟨11,_,rfl,rfl,Cov.refl _,fun _ => rfl⟩),trivial⟩ ⟨(.inl ⟨13,_,rfl,rfl,Cov.osl_rd,fun h => by cases h⟩),trivial⟩ (by rintro r; kernel_rfl) (by rintro r; kernel_rfl) (w___extent_Map__Write F x5 b a.2.1 a.2.2 4096 (some (Addr.mk (d 18).x 0 none)) 1 [(120 : UInt8)] G) ?_
          rintro r
          refine GR.ru (i := 21) 3 (env' := fun _ => [(0,.bool (p.1 == 27))]) (mem' := fun _ => []) (by kernel_rfl) (RunsTo.mk [] [0] [] (fun _ => []) (fun _ => by kernel_rfl) (fun _ => trivial)) ?_
          intro _
          refine GR.dn (by kernel_rfl) ?_
          have hy := Option.some.inj hm
          subst hy
          refine GS.ret (fn := Try.f10) [0] [.bool (p.1 == 27)] [] rfl Try.func10 (by kernel_rfl) trivial (fun w' hs => ?_)
          exact ⟨(),rfl,hs.turnedG (ks := []) rfl rfl⟩
        · skip
          refine GR.ru (i := 13) 11 (env' := fun _ => [(0,.bool false)]) (mem' := fun _ => []) (by kernel_rfl) (RunsTo.mk [(13,{ act := .text 12 m }),(16,{ sp := some (.bool false) })] [0] [] (fun _ => [o = o,m.length = (List.map rB m).length,List.map rB m = encB m,((.bool ((ByteArray.mk m.toArray).toList == (ByteArray.mk #[0,0,97,0,0,100]).toList)) : Value) = .bool false]) (fun _ => by kernel_rfl) (fun _ => ⟨rfl,mlen rB m,rfl,bool_eq A,trivial⟩)) ?_
          intro _
          refine GR.dn (by kernel_rfl) ?_
          have hy := Option.some.inj hm
          subst hy
          refine GS.ret (fn := Try.f10) [0] [.bool false] [] rfl Try.func10 (by kernel_rfl) trivial (fun w' hs => ?_)
          exact ⟨(),rfl,hs.turnedG (ks := []) rfl rfl⟩
      · skip
        refine GS.rg (fun _ => [(0,.bool false)]) (fun _ => []) [(2,{ sp := some (.bool true) }),(6,{ sp := some (.bool true) }),(10,{ sp := some (.bool false) })] [0] [] (fun _ => [((.bool (y9.1 == 0)) : Value) = .bool true,((.bool (j.1 == 0)) : Value) = .bool true,((.bool (a.1 == 0)) : Value) = .bool false]) (fun _ => by kernel_rfl) (fun _ => ⟨bool_eq u,bool_eq v,bool_eq z,trivial⟩) ?_
        intro _
        have hy := Option.some.inj hm
        subst hy
        refine GS.ret (fn := Try.f10) [0] [.bool false] [] rfl Try.func10 (by kernel_rfl) trivial (fun w' hs => ?_)
        exact ⟨(),rfl,hs.turnedG (ks := []) rfl rfl⟩
    · skip
      refine GS.rg (fun _ => [(0,.bool false)]) (fun _ => []) [(2,{ sp := some (.bool true) }),(6,{ sp := some (.bool false) })] [0] [] (fun _ => [((.bool (y9.1 == 0)) : Value) = .bool true,((.bool (j.1 == 0)) : Value) = .bool false]) (fun _ => by kernel_rfl) (fun _ => ⟨bool_eq u,bool_eq v,trivial⟩) ?_
      intro _
      have hy := Option.some.inj hm
      subst hy
      refine GS.ret (fn := Try.f10) [0] [.bool false] [] rfl Try.func10 (by kernel_rfl) trivial (fun w' hs => ?_)
      exact ⟨(),rfl,hs.turnedG (ks := []) rfl rfl⟩
  · skip
    refine GS.rg (fun _ => [(0,.bool false)]) (fun _ => []) [(2,{ sp := some (.bool false) })] [0] [] (fun _ => [((.bool (y9.1 == 0)) : Value) = .bool false]) (fun _ => by kernel_rfl) (fun _ => ⟨bool_eq u,trivial⟩) ?_
    intro _
    have hy := Option.some.inj hm
    subst hy
    refine GS.ret (fn := Try.f10) [0] [.bool false] [] rfl Try.func10 (by kernel_rfl) trivial (fun w' hs => ?_)
    exact ⟨(),rfl,hs.turnedG (ks := []) rfl rfl⟩

end Go.Proofs.Ytmdfkklldbfocaa
