/-
  CHAPTER 05y: the functions do what their models say (5).
-/
import Derived.Test.YtmdfkklldbfocaaM05y
import Derived.Test.YtmdfkklldbfocaaW05ya
set_option linter.unusedVariables false
set_option linter.unusedSimpArgs false
set_option maxRecDepth 100000
set_option maxHeartbeats 8000000
namespace Go.Proofs.Ytmdfkklldbfocaa
open Go Go.RowKit Sx

theorem w___extent_Map__Bytes (F : Nat) (s : Nat) (c : Hds) (b : List S_extent_run) (d : Int) {y : List UInt8} (hm : m___extent_Map__Bytes F b d = some y) : CallG Try.prog 17 #[pA s 0] (X := Option Addr × Nat) (fun ⟨x0,x1⟩ => .slice x0 y.length x1) [] [Ent.all (sgs 59 nX59 c none b),Ent.all (nins nJ59 c b),.rd (some ⟨s,0,none⟩) 3 ([[.bool true,.pointer (sgp c none b),vI d]] : List (List Value))] (fun ⟨x0,x1⟩ => [o5 x0 x1 y]) := by
  intro w hg
  rw [m___extent_Map__Bytes] at hm
  refine GS.start (S := mayT [] [Ent.all (sgs 59 nX59 c none b),Ent.all (nins nJ59 c b),.rd (some ⟨s,0,none⟩) 3 ([[.bool true,.pointer (sgp c none b),vI d]] : List (List Value))]) (mem := [(1,Ent.all (sgs 59 nX59 c none b)),(2,Ent.all (nins nJ59 c b)),(3,.rd (some ⟨s,0,none⟩) 3 ([[.bool true,.pointer (sgp c none b),vI d]] : List (List Value)))]) Try.func17 rfl Try.ntmps17 (Nat.le_of_ble_eq_true rfl) (hg.start rfl) ?_
  refine GS.conv (env' := [(0,pA s 0)]) rfl rfl ?_
  refine GS.seq ?_
  refine GS.rzM (fun _ => [(0,pA s 0)]) [] [0] [1,2,3] (fun _ => by kernel_rfl) ?_
  intro _
  refine GS.seq ?_
  refine GS.seq ?_
  refine bnd_elim hm (fun y3 e4 hm => ?_)
  refine GS.rgM (fun _ => [(0,pA s 0),(8,.bool false)]) [(1,{ act := .call [3] (.bool true) })] [0,8] [1,2,3] (fun _ => [CallOK Try.prog 25 #[pA s 0] (.bool true) [some (.rd (some ⟨s,0,none⟩) 3 ([[.bool true,.pointer (sgp c none b),vI d]] : List (List Value)))]]) (fun _ => by kernel_rfl) (fun _ => ⟨(by have h1 := w___extent_Map__is F s (.pointer (sgp c none b)) d e4; exact h1.ok ⟨(.inl ⟨.rd (some ⟨s,0,none⟩) 3 ([[.bool true,.pointer (sgp c none b),vI d]] : List (List Value)),.head _,Cov.refl _⟩),trivial⟩),trivial⟩) ?_
  intro _
  refine GS.cond (t := false) rfl rfl (fun hf => by cases hf) (fun _ => ?_)
  refine GS.skip ?_
  refine GS.seq ?_
  refine grd_elim hm (fun g6 hm => ?_)
  refine grd_elim hm (fun g7 hm => ?_)
  refine grd_elim hm (fun g8 hm => ?_)
  refine GS.rg (fun n => [(0,pA s 0),(3,pA ((n 5).x) 0)]) (fun n => [(1,Ent.all (sgs 59 nX59 c none b)),(2,Ent.all (nins nJ59 c b)),(3,.rd (some ⟨s,0,none⟩) 3 ([[.bool true,.pointer (sgp c none b),vI d]] : List (List Value))),(4,.osl (some (Addr.mk (n 4).x 0 none)) (Int.toNat d) 5 1 (List.replicate (Int.toNat d) [.int .u8 0])),(5,.cells ((n 5).x) 22 [.slice (some (Addr.mk (n 4).x 0 none)) ((List.replicate (Int.toNat d) (0 : UInt8)).length) (Int.toNat d)])]) [(3,{ act := .load 3 0 2 [.bool true,.pointer (sgp c none b),vI d] }),(4,{ act := .makeSlice (Int.toNat d) (Int.toNat d),key := some 4,spf := some (fun f => .slice (some (Addr.mk f.x 0 none)) ((List.replicate (Int.toNat d) (0 : UInt8)).length) (Int.toNat d)) }),(5,{ act := .new .var,key := some 5 }),(6,{ act := .store 0 0 [],key := some 5 })] [0,3] [1,2,3,4,5] (fun n => [s = blk (some ⟨s,0,none⟩),2 = offs (some ⟨s,0,none⟩) + (0 * 3 + 2),([[.bool true,.pointer (sgp c none b),vI d]] : List (List Value))[0]? = some [.bool true,.pointer (sgp c none b),vI d],d = (((Int.toNat d) : Nat) : Int),d = (((Int.toNat d) : Nat) : Int),(Int.toNat d) ≤ (Int.toNat d),(Int.toNat d) * 1 ≤ 281474976710656,(Int.toNat d) ≤ 9223372036854775807,((.slice (some (Addr.mk (n 4).x 0 none)) (Int.toNat d) (Int.toNat d)) : Value) = .slice (some (Addr.mk (n 4).x 0 none)) ((List.replicate (Int.toNat d) (0 : UInt8)).length) (Int.toNat d),(n 5).x = (n 5).x,oC (.slice (some (Addr.mk (n 4).x 0 none)) ((List.replicate (Int.toNat d) (0 : UInt8)).length) (Int.toNat d))]) (fun n => by kernel_rfl) (fun n => ⟨rfl,rfl,rfl,(Int.toNat_of_nonneg g6).symm,(Int.toNat_of_nonneg g6).symm,(Nat.le_refl _),g7,g8,slen (List.length_replicate ..).symm,rfl,rfl,trivial⟩) ?_
  intro n
  refine GS.conv (mem' := [(1,Ent.all (sgs 59 nX59 c none b)),(2,Ent.all (nins nJ59 c b)),(3,.rd (some ⟨s,0,none⟩) 3 ([[.bool true,.pointer (sgp c none b),vI d]] : List (List Value))),(4,o5 (some (Addr.mk (n 4).x 0 none)) (Int.toNat d) (List.replicate (Int.toNat d) (0 : UInt8))),(5,.cells ((n 5).x) 22 [.slice (some (Addr.mk (n 4).x 0 none)) ((List.replicate (Int.toNat d) (0 : UInt8)).length) (Int.toNat d)])]) rfl (congrArg (fun rr : List (List Value) => ([(1,Ent.all (sgs 59 nX59 c none b)),(2,Ent.all (nins nJ59 c b)),(3,.rd (some ⟨s,0,none⟩) 3 ([[.bool true,.pointer (sgp c none b),vI d]] : List (List Value))),(4,.osl (some (Addr.mk (n 4).x 0 none)) (Int.toNat d) 5 1 rr),(5,.cells ((n 5).x) 22 [.slice (some (Addr.mk (n 4).x 0 none)) ((List.replicate (Int.toNat d) (0 : UInt8)).length) (Int.toNat d)])] : List (Nat × Ent))) (show List.replicate (Int.toNat d) [.int .u8 0] = List.map rB (List.replicate (Int.toNat d) (0 : UInt8)) from mrep rB (Int.toNat d) (0 : UInt8))) ?_
  refine GS.seq ?_
  refine GS.seq ?_
  refine GS.gen (ι := Option Addr × Nat) (fun ⟨o,m⟩ => True) (fun ⟨o,m⟩ => [(0,pA s 0),(3,pA ((n 5).x) 0)]) (fun ⟨o,m⟩ => [(1,Ent.all (sgs 59 nX59 c none b)),(2,Ent.all (nins nJ59 c b)),(3,.rd (some ⟨s,0,none⟩) 3 ([[.bool true,.pointer (sgp c none b),vI d]] : List (List Value))),(4,o5 o (m) (List.replicate (Int.toNat d) (0 : UInt8))),(5,.cells ((n 5).x) 22 [.slice o ((List.replicate (Int.toNat d) (0 : UInt8)).length) (m)])]) ⟨some (Addr.mk (n 4).x 0 none),Int.toNat d⟩ trivial ?_
  rintro ⟨o,m⟩ _
  refine bnd_elim hm (fun z M hm => ?_)
  refine GS.open_ ?_
  refine GR.rM (i := 0) 1 (env' := fun _ => [(3,pA ((n 5).x) 0),(14,pA s 0)]) (by kernel_rfl) (RunsTo.mk [] [3,14] [1,2,3,4,5] (fun _ => []) (fun _ => by kernel_rfl) (fun _ => trivial)) ?_
  intro _
  refine GR.callG (X := Nat × Option Addr × Nat × Hds) (i := 1) (g := 16) (ro := [Ent.all (sgs 59 nX59 c none b),Ent.all (nins nJ59 c b),.rd (some ⟨s,0,none⟩) 3 ([[.bool true,.pointer (sgp c none b),vI d]] : List (List Value))]) (mem' := fun ⟨E,B,D,C⟩ => [(1,Ent.all (sgs 59 nX59 c none b)),(2,Ent.all (nins nJ59 c b)),(3,.rd (some ⟨s,0,none⟩) 3 ([[.bool true,.pointer (sgp c none b),vI d]] : List (List Value))),(4,o5 o (m) (List.replicate (Int.toNat d) (0 : UInt8))),(5,.cells ((n 5).x) 22 [.slice o ((List.replicate (Int.toNat d) (0 : UInt8)).length) (m)]),(6,.osl B D 59 3 (nrows nR59 C z)),(7,bag (nins nI59 C z)),(8,.cells E 61 [.slice B z.length D])]) (env' := fun ⟨E,B,D,C⟩ => [(3,pA ((n 5).x) 0),(15,.func (.func 26) #[] #[pA E 0])]) [] [6,7,8] [3,15] [1,2,3,4,5,6,7,8] false (by kernel_rfl) (by kernel_rfl) (by kernel_rfl) (by kernel_rfl) (by kernel_rfl) (fun _ => rfl) (fun _ _ => rfl) ⟨(.inl ⟨1,_,rfl,rfl,Cov.refl _,fun h => by cases h⟩),(.inl ⟨2,_,rfl,rfl,Cov.refl _,fun h => by cases h⟩),(.inl ⟨3,_,rfl,rfl,Cov.refl _,fun h => by cases h⟩),trivial⟩ (by rintro ⟨E,B,D,C⟩; kernel_rfl) (by rintro ⟨E,B,D,C⟩; kernel_rfl) (w___extent_Map__Extents F s c b d M) ?_
  rintro ⟨E,B,D,C⟩
  refine GR.dn (by kernel_rfl) ?_
  refine GS.block ?_
  refine bnd_elim hm (fun H N hm => ?_)
  refine GS.rekey (env' := [(3,pA ((n 5).x) 0),(15,.func (.func 26) #[] #[pA E 0])]) (mem' := [(1,Ent.all (sgs 59 nX59 c none b)),(2,Ent.all (nins nJ59 c b)),(3,.rd (some ⟨s,0,none⟩) 3 ([[.bool true,.pointer (sgp c none b),vI d]] : List (List Value))),(4,o5 o (m) (List.replicate (Int.toNat d) (0 : UInt8))),(5,.cells ((n 5).x) 22 [.slice o ((List.replicate (Int.toNat d) (0 : UInt8)).length) (m)]),(6,.osl B D 59 3 (nrows nR59 C z)),(7,bag (nins nI59 C z)),(8,.cells E 61 [.slice B z.length D])]) [3,15] [(1,1),(2,2),(3,3),(4,4),(5,5),(6,6),(7,7),(8,8)] (by kernel_rfl) (by kernel_rfl) rfl ?_
  refine GS.setMem (mem' := [(1,Ent.all (sgs 59 nX59 c none b)),(2,Ent.all (nins nJ59 c b)),(3,.rd (some ⟨s,0,none⟩) 3 ([[.bool true,.pointer (sgp c none b),vI d]] : List (List Value))),(4,o5 o (m) (List.replicate (Int.toNat d) (0 : UInt8))),(5,.cells ((n 5).x) 22 [.slice o ((List.replicate (Int.toNat d) (0 : UInt8)).length) (m)]),(6,.osl B D 59 3 (nrows nR59 C z)),(7,bag (nins nI59 C z)),(8,.cells E 61 [.slice B z.length D]),(700020,Ent.all [])]) (fun w hw => Sat.addAll hw [] rfl rfl rfl) ?_
  refine GS.rangeFuncG (τ := List UInt8) (A := Unit) 500002 500003 [4,5] [1,2,3,4,5,6,7,8] (fun t a => [o5 o (m) t,.cells ((n 5).x) 22 [.slice o t.length (m)]]) (fun t => none) (List.replicate (Int.toNat d) (0 : UInt8)) H () (mem' := fun a => [(1,Ent.all (sgs 59 nX59 c none b)),(2,Ent.all (nins nJ59 c b)),(3,.rd (some ⟨s,0,none⟩) 3 ([[.bool true,.pointer (sgp c none b),vI d]] : List (List Value))),(4,o5 o (m) H),(5,.cells ((n 5).x) 22 [.slice o H.length (m)]),(6,.osl B D 59 3 (nrows nR59 C z)),(7,bag (nins nI59 C z)),(8,.cells E 61 [.slice B z.length D])]) (RL := []) (itro := [.rd B 3 (nrows nR59 C z),Ent.all (nins nJ59 C z),.rd (some ⟨E,0,none⟩) 1 ([[.slice B z.length D]] : List (List Value))]) (vv := .tuple #[]) rfl rfl rfl (fun _ _ => rfl) ⟨rfl,rfl,rfl⟩ rfl (fun _ => ⟨rfl,rfl⟩) rfl rfl (by kernel_rfl) rfl (fun _ _ => rfl) (fun _ => rfl) ⟨(.inl ⟨6,_,rfl,rfl,Cov.osl_rd,fun h => by cases h⟩),(.inl ⟨7,_,rfl,rfl,(Cov.bag_all (nins_cov nC59 _ _)),fun h => by cases h⟩),(.inl ⟨8,_,rfl,rfl,Cov.cells_rd,fun h => by cases h⟩),(.inl ⟨700020,_,rfl,rfl,Cov.refl _,fun h => by cases h⟩),trivial⟩ (fun a => by kernel_rfl) ?_ ?_
  · intro u G v L
    refine w___extent_Map__Extents_1 F (rfBag u G v (fun t => none) (fun t a => [o5 o (m) t,.cells ((n 5).x) 22 [.slice o t.length (m)]])) [] u (fun (t : List UInt8) (x : Int × List UInt8) => (fun (l : List UInt8) => (fun (O : Int × List UInt8) => match O with | (j,e) => grd (Bd j l.length) (grd (1 ≤ e.length) (grd ((Int.toNat j) + e.length ≤ l.length) (some (true,(l.take (Int.toNat j) ++ (e ++ l.drop ((Int.toNat j) + e.length)))))))) x) t) (fun l a q r j e y hm => ?_) (List.replicate (Int.toNat d) (0 : UInt8)) () E B D C z N
    try dsimp only at hm
    try dsimp only at hm
    refine L (X := Unit) l a #[vI j,.slice q e.length r] (fun _ => .bool y.1) [o5 q r e] (fun a' => [bag (rfBag u G v (fun t => none) (fun t a => [o5 o (m) t,.cells ((n 5).x) 22 [.slice o t.length (m)]]) y.2 a')]) rfl rfl (fun w => ?_)
    refine GS.rekey (env' := [(3,pA ((n 5).x) 0),(16,vI j),(17,.slice q e.length r)]) (mem' := [(700030,bag (rfBag u G v (fun t => none) (fun t a => [o5 o (m) t,.cells ((n 5).x) 22 [.slice o t.length (m)]]) l a)),(700031,o5 q r e),(700032,Ent.all [])]) [3,16,17] [(700030,1),(700031,2),(700032,3)] (by kernel_rfl) (by kernel_rfl) rfl ?_
    refine GS.setMem (mem' := [(4,o5 o (m) l),(5,.cells ((n 5).x) 22 [.slice o l.length (m)]),(500002,blkD G),(500003,.obj u (.loop (recRd v))),(700031,o5 q r e),(700032,Ent.all [])]) (fun w hw => unbag_mem (k := 700030) (nk := [500002,500003,4,5]) (keys := [4,5,500002,500003,700031,700032]) hw rfl rfl rfl rfl (by kernel_rfl)) ?_
    refine GS.rekey (env' := [(3,pA ((n 5).x) 0),(16,vI j),(17,.slice q e.length r)]) (mem' := [(4,o5 o (m) l),(5,.cells ((n 5).x) 22 [.slice o l.length (m)]),(9,o5 q r e),(500002,blkD G),(500003,.obj u (.loop (recRd v)))]) [3,16,17] [(4,4),(5,5),(9,700031),(500002,500002),(500003,500003)] (by kernel_rfl) (by kernel_rfl) rfl ?_
    refine GS.seq ?_
    refine GS.rzM (fun _ => [(3,pA ((n 5).x) 0),(4,vI j),(17,.slice q e.length r)]) [] [3,4,17] [4,5,9,500002,500003] (fun _ => by kernel_rfl) ?_
    intro _
    refine GS.rzM (fun _ => [(3,pA ((n 5).x) 0),(4,vI j),(5,.slice q e.length r)]) [] [3,4,5] [4,5,9,500002,500003] (fun _ => by kernel_rfl) ?_
    intro _
    refine GS.beginRound 500003 rfl rfl rfl rfl ?_
    refine GS.conv (mem' := [(4,o5 o (m) l),(5,.cells ((n 5).x) 22 [.slice o l.length (m)]),(9,o5 q r e),(500002,blkD G),(500003,.obj u (.loop (recBz v)))]) rfl rfl ?_
    refine GS.block ?_
    refine grd_elim hm (fun I hm => ?_)
    refine GS.know (p := l.length ≤ (m)) (fun w hw => by first | (have h := (hw.ok 4 _ rfl).1.1; rw [List.length_map] at h; exact h) | (have h := (hw.ok 4 _ rfl).1.1; rw [nrows_len] at h; exact h) | simpa using (hw.ok 4 _ rfl).1.1) (fun P => ?_)
    refine grd_elim hm (fun Q hm => ?_)
    refine grd_elim hm (fun J hm => ?_)
    refine GS.rg (fun _ => []) (fun _ => [(4,.osl o (m) 5 1 ((List.map rB l).take (Int.toNat j) ++ ((List.map rB e) ++ (List.map rB l).drop ((Int.toNat j) + (List.map rB e).length)))),(5,.cells ((n 5).x) 22 [.slice o l.length (m)]),(500002,blkD G),(500003,.obj u (.loop (recBz v)))]) [(0,{ act := .load 5 0 0 [] }),(2,{ act := .cut (Int.toNat j) l.length (m),sp := some (.slice (cutOb o (Int.toNat j) (m) 1) (((l.drop (Int.toNat j)).take (l.length - (Int.toNat j))).length) ((m) - (Int.toNat j))) }),(4,{ act := .copyAt (Int.toNat j) (some 9),key := some 4,sp := some (vI (e.length : Int)) })] [] [4,5,500002,500003] (fun _ => [(n 5).x = (n 5).x,j = (((Int.toNat j) : Nat) : Int),l.length = l.length,(m) = (m),(Int.toNat j) ≤ l.length,l.length ≤ (m),(m) ≤ (m),(none : Option Operand) = none → (none : Option Operand) = none,((.slice (if (m) = (Int.toNat j) then o else (o).map (fun a => a.add ((Int.toNat j) * 1))) (l.length - (Int.toNat j)) ((m) - (Int.toNat j))) : Value) = .slice (cutOb o (Int.toNat j) (m) 1) (((l.drop (Int.toNat j)).take (l.length - (Int.toNat j))).length) ((m) - (Int.toNat j)),q = q,e.length = (List.map rB e).length,(cutOb o (Int.toNat j) (m) 1) = cutOb o (Int.toNat j) (m) 1,((l.drop (Int.toNat j)).take (l.length - (Int.toNat j))).length = (List.map rB l).length - (Int.toNat j),1 ≤ (List.map rB e).length,(Int.toNat j) + (List.map rB e).length ≤ (List.map rB l).length,(List.map rB e).flatten.all Value.oneCell' = true,((vI (((List.map rB e).length : Nat) : Int)) : Value) = vI (e.length : Int)]) (fun _ => by kernel_rfl) (fun _ => ⟨rfl,I.eq,rfl,rfl,I.2,(Nat.le_trans (Nat.le_refl _) P),(Nat.le_refl _),(by intro h; first | rfl | cases h),slen (by simp only [List.length_take,List.length_drop]; have h1 : l.length ≤ l.length := (Nat.le_refl _); have h2 : (Int.toNat j) ≤ l.length := I.2; omega),rfl,mlen rB e,rfl,(by rw [((mlen rB l).symm : (List.map rB l).length = l.length)]; simp only [List.length_take,List.length_drop]; omega),(by rw [((mlen rB e).symm : (List.map rB e).length = e.length)]; exact Q),(by rw [((mlen rB l).symm : (List.map rB l).length = l.length),((mlen rB e).symm : (List.map rB e).length = e.length)]; exact J),(all_one rB _ (fun _ => rfl)),(by rw [((mlen rB e).symm : (List.map rB e).length = e.length)]),trivial⟩) ?_
    intro _
    refine GS.conv (mem' := [(4,o5 o (m) (l.take (Int.toNat j) ++ (e ++ l.drop ((Int.toNat j) + e.length)))),(5,.cells ((n 5).x) 22 [.slice o l.length (m)]),(500002,blkD G),(500003,.obj u (.loop (recBz v)))]) rfl (congrArg (fun rr : List (List Value) => ([(4,.osl o (m) 5 1 rr),(5,.cells ((n 5).x) 22 [.slice o l.length (m)]),(500002,blkD G),(500003,.obj u (.loop (recBz v)))] : List (Nat × Ent))) (show (List.map rB l).take (Int.toNat j) ++ ((List.map rB e) ++ (List.map rB l).drop ((Int.toNat j) + (List.map rB e).length)) = List.map rB (l.take (Int.toNat j) ++ (e ++ l.drop ((Int.toNat j) + e.length))) from (by rw [((mlen rB e).symm : (List.map rB e).length = e.length),show List.map rB l = List.map rB l from rfl,show List.map rB e = List.map rB e from rfl]; simp only [List.map_append,List.map_take,List.map_drop]))) ?_
    refine GS.inBlock ?_
    refine GS.conv (mem' := [(4,o5 o (m) (l.take (Int.toNat j) ++ (e ++ l.drop ((Int.toNat j) + e.length)))),(5,.cells ((n 5).x) 22 [.slice o ((l.take (Int.toNat j) ++ (e ++ l.drop ((Int.toNat j) + e.length))).length) (m)]),(500002,blkD G),(500003,.obj u (.loop (recBz v)))]) rfl (congrArg (fun ehole : Ent => ([(4,o5 o (m) (l.take (Int.toNat j) ++ (e ++ l.drop ((Int.toNat j) + e.length)))),(5,ehole),(500002,blkD G),(500003,.obj u (.loop (recBz v)))] : List (Nat × Ent))) (show ((.cells ((n 5).x) 22 [.slice o l.length (m)]) : Ent) = .cells ((n 5).x) 22 [.slice o ((l.take (Int.toNat j) ++ (e ++ l.drop ((Int.toNat j) + e.length))).length) (m)] from (by first | simp only [copy_len J] | simp [copy_len J]))) ?_
    have hy := Option.some.inj hm
    subst hy
    refine GS.rekey (env' := []) (mem' := [(4,o5 o (m) (l.take (Int.toNat j) ++ (e ++ l.drop ((Int.toNat j) + e.length)))),(5,.cells ((n 5).x) 22 [.slice o ((l.take (Int.toNat j) ++ (e ++ l.drop ((Int.toNat j) + e.length))).length) (m)]),(500002,blkD G),(500003,.obj u (.loop (recBz v)))]) [] [(4,4),(5,5),(500002,500002),(500003,500003)] (by kernel_rfl) (by kernel_rfl) rfl ?_
    refine GS.roundEnd 500003 rfl rfl rfl rfl rfl (fun w' hs => ⟨(),rfl,TurnsG.bag (es' := [blkD G,.obj u (.loop (recRd v)),o5 o (m) (l.take (Int.toNat j) ++ (e ++ l.drop ((Int.toNat j) + e.length))),.cells ((n 5).x) 22 [.slice o ((l.take (Int.toNat j) ++ (e ++ l.drop ((Int.toNat j) + e.length))).length) (m)]]) (hs.turnedG (ks := [500002,500003,4,5]) rfl rfl) rfl⟩)
  intro K a
  refine GS.rekey (env' := [(3,pA ((n 5).x) 0),(15,.func (.func 26) #[] #[pA E 0])]) (mem' := [(1,Ent.all (sgs 59 nX59 c none b)),(2,Ent.all (nins nJ59 c b)),(3,.rd (some ⟨s,0,none⟩) 3 ([[.bool true,.pointer (sgp c none b),vI d]] : List (List Value))),(4,o5 o (m) H),(5,.cells ((n 5).x) 22 [.slice o H.length (m)]),(6,.osl B D 59 3 (nrows nR59 C z)),(7,bag (nins nI59 C z)),(8,.cells E 61 [.slice B z.length D]),(500002,blkD K)]) [3,15] [(1,1),(2,2),(3,3),(4,4),(5,5),(6,6),(7,7),(8,8),(500002,500002)] (by kernel_rfl) (by kernel_rfl) rfl ?_
  refine GS.jmpN ?_
  refine GS.inBlock ?_
  refine GS.seq ?_
  refine GS.rg (fun _ => [(2,.slice o H.length (m))]) (fun _ => [(4,o5 o (m) H),(500002,blkD K)]) [(0,{ act := .load 5 0 0 [] })] [2] [4,500002] (fun _ => [(n 5).x = (n 5).x]) (fun _ => by kernel_rfl) (fun _ => ⟨rfl,trivial⟩) ?_
  intro _
  have hy := Option.some.inj hm
  subst hy
  refine GS.retD (mem2 := [(4,o5 o (m) H)]) (fn := Try.f17) [(500002,K)] [0] [4] [.slice o H.length (m)] [] rfl rfl Try.func17 rfl rfl rfl (by kernel_rfl) (by kernel_rfl) trivial (fun w' hs => ?_)
  exact ⟨⟨o,(m)⟩,rfl,hs.turnedG (ks := [4]) rfl rfl⟩

theorem w___extent_Map__Read (F : Nat) (j : Nat) (c : Hds) (b : List S_extent_run) (f : Int) (a1 : Int) (a2 : Int) {y : List UInt8 × Int} (hm : m___extent_Map__Read F b f a1 a2 = some y) : CallG Try.prog 11 #[pA j 0,vI a1,vI a2] (X := Option Addr × Nat) (fun ⟨x0,x1⟩ => .tuple #[.slice x0 y.1.length x1,vI y.2]) [] [Ent.all (sgs 59 nX59 c none b),Ent.all (nins nJ59 c b),.rd (some ⟨j,0,none⟩) 3 ([[.bool true,.pointer (sgp c none b),vI f]] : List (List Value))] (fun ⟨x0,x1⟩ => [o5 x0 x1 y.1]) := by
  intro w hg
  rw [m___extent_Map__Read] at hm
  refine GS.start (S := mayT [] [Ent.all (sgs 59 nX59 c none b),Ent.all (nins nJ59 c b),.rd (some ⟨j,0,none⟩) 3 ([[.bool true,.pointer (sgp c none b),vI f]] : List (List Value))]) (mem := [(1,Ent.all (sgs 59 nX59 c none b)),(2,Ent.all (nins nJ59 c b)),(3,.rd (some ⟨j,0,none⟩) 3 ([[.bool true,.pointer (sgp c none b),vI f]] : List (List Value)))]) Try.func11 rfl Try.ntmps11 (Nat.le_of_ble_eq_true rfl) (hg.start rfl) ?_
  refine GS.conv (env' := [(0,pA j 0),(1,vI a1),(2,vI a2)]) rfl rfl ?_
  refine GS.seq ?_
  refine GS.rzM (fun _ => [(0,pA j 0),(1,vI a1),(2,vI a2)]) [] [0,1,2] [1,2,3] (fun _ => by kernel_rfl) ?_
  intro _
  refine GS.seq ?_
  refine GS.block ?_
  refine GS.seq ?_
  refine bnd_elim hm (fun y3 e4 hm => ?_)
  refine GS.rgM (fun _ => [(0,pA j 0),(1,vI a1),(2,vI a2),(9,.bool false)]) [(1,{ act := .call [3] (.bool true) })] [0,1,2,9] [1,2,3] (fun _ => [CallOK Try.prog 25 #[pA j 0] (.bool true) [some (.rd (some ⟨j,0,none⟩) 3 ([[.bool true,.pointer (sgp c none b),vI f]] : List (List Value)))]]) (fun _ => by kernel_rfl) (fun _ => ⟨(by have h1 := w___extent_Map__is F j (.pointer (sgp c none b)) f e4; exact h1.ok ⟨(.inl ⟨.rd (some ⟨j,0,none⟩) 3 ([[.bool true,.pointer (sgp c none b),vI f]] : List (List Value)),.head _,Cov.refl _⟩),trivial⟩),trivial⟩) ?_
  intro _
  refine GS.cond (t := false) rfl rfl (fun hf => by cases hf) (fun _ => ?_)
  refine GS.seq ?_
  refine jn_elim hm (fun J7 s hm => ?_)
  refine GS.cut (ι := Bool) (I := fun (l : Bool) => J7 l = some y) (E := fun (l : Bool) => [(0,pA j 0),(1,vI a1),(2,vI a2),(13,.bool l)]) (M := fun (l : Bool) => [(1,Ent.all (sgs 59 nX59 c none b)),(2,Ent.all (nins nJ59 c b)),(3,.rd (some ⟨j,0,none⟩) 3 ([[.bool true,.pointer (sgp c none b),vI f]] : List (List Value)))]) ?_ ?_
  rotate_left
  · intro H8
    refine br_elim hm (fun h6 hm => ?_) (fun h6 hm => ?_)
    · skip
      refine GS.rgM (fun _ => [(0,pA j 0),(1,vI a1),(2,vI a2),(13,.bool true)]) [(2,{ sp := some (.bool true) })] [0,1,2,13] [1,2,3] (fun _ => [((.bool (decide (a1 < 0))) : Value) = .bool true]) (fun _ => by kernel_rfl) (fun _ => ⟨bool_eq h6,trivial⟩) ?_
      intro _
      refine GS.rekey (env' := [(0,pA j 0),(1,vI a1),(2,vI a2),(13,.bool true)]) (mem' := [(1,Ent.all (sgs 59 nX59 c none b)),(2,Ent.all (nins nJ59 c b)),(3,.rd (some ⟨j,0,none⟩) 3 ([[.bool true,.pointer (sgp c none b),vI f]] : List (List Value)))]) [0,1,2,13] [(1,1),(2,2),(3,3)] (by kernel_rfl) (by kernel_rfl) rfl ?_
      exact H8 true hm
    · skip
      refine GS.rgM (fun _ => [(0,pA j 0),(1,vI a1),(2,vI a2),(13,.bool (decide (a2 < 0)))]) [(2,{ sp := some (.bool false) })] [0,1,2,13] [1,2,3] (fun _ => [((.bool (decide (a1 < 0))) : Value) = .bool false]) (fun _ => by kernel_rfl) (fun _ => ⟨bool_eq h6,trivial⟩) ?_
      intro _
      refine GS.rekey (env' := [(0,pA j 0),(1,vI a1),(2,vI a2),(13,.bool (decide (a2 < 0)))]) (mem' := [(1,Ent.all (sgs 59 nX59 c none b)),(2,Ent.all (nins nJ59 c b)),(3,.rd (some ⟨j,0,none⟩) 3 ([[.bool true,.pointer (sgp c none b),vI f]] : List (List Value)))]) [0,1,2,13] [(1,1),(2,2),(3,3)] (by kernel_rfl) (by kernel_rfl) rfl ?_
      exact H8 (decide (a2 < 0)) hm
  · rintro l hm
    replace hm := (s _).symm.trans hm
    try dsimp only at hm
    refine GS.cond (t := l) rfl rfl (fun q => ?_) (fun q => ?_)
    · replace hm := br_t q hm
      refine GS.seq ?_
      refine GS.rz (fun _ => [(6,.slice none 0 0),(7,vI 22)]) (fun _ => []) [] [6,7] [] (fun _ => by kernel_rfl) ?_
      intro _
      refine GS.setMem (mem' := [(4,o5 none 0 ([] : List UInt8))]) (fun w hw => Sat.addNil hw rfl) ?_
      have hy := Option.some.inj hm
      subst hy
      refine GS.ret (fn := Try.f11) [0,0] [.slice none 0 0,vI 22] [] rfl Try.func11 (by kernel_rfl) trivial (fun w' hs => ?_)
      exact ⟨⟨none,0⟩,rfl,hs.turnedG (ks := [4]) rfl rfl⟩
    · replace hm := br_f q hm
      refine GS.seq ?_
      refine GS.rgM (fun _ => [(0,pA j 0),(1,vI a1),(2,vI a2),(20,.bool (decide (a1 ≥ f)))]) [(4,{ act := .load 3 0 2 [.bool true,.pointer (sgp c none b),vI f] })] [0,1,2,20] [1,2,3] (fun _ => [j = blk (some ⟨j,0,none⟩),2 = offs (some ⟨j,0,none⟩) + (0 * 3 + 2),([[.bool true,.pointer (sgp c none b),vI f]] : List (List Value))[0]? = some [.bool true,.pointer (sgp c none b),vI f]]) (fun _ => by kernel_rfl) (fun _ => ⟨rfl,rfl,rfl,trivial⟩) ?_
      intro _
      refine GS.cond (t := decide (a1 ≥ f)) rfl rfl (fun r => ?_) (fun r => ?_)
      · replace hm := br_t r hm
        refine GS.seq ?_
        refine GS.rz (fun _ => [(6,.slice none 0 0),(7,vI 0)]) (fun _ => []) [] [6,7] [] (fun _ => by kernel_rfl) ?_
        intro _
        refine GS.setMem (mem' := [(4,o5 none 0 ([] : List UInt8))]) (fun w hw => Sat.addNil hw rfl) ?_
        have hy := Option.some.inj hm
        subst hy
        refine GS.ret (fn := Try.f11) [0,0] [.slice none 0 0,vI 0] [] rfl Try.func11 (by kernel_rfl) trivial (fun w' hs => ?_)
        exact ⟨⟨none,0⟩,rfl,hs.turnedG (ks := [4]) rfl rfl⟩
      · replace hm := br_f r hm
        refine GS.skip ?_
        refine GS.inBlock ?_
        refine GS.seq ?_
        refine bnd_elim hm (fun d u hm => ?_)
        refine GS.open_ ?_
        refine GR.rM (i := 0) 1 (env' := fun _ => [(1,vI a1),(2,vI a2),(27,pA j 0)]) (by kernel_rfl) (RunsTo.mk [] [1,2,27] [1,2,3] (fun _ => []) (fun _ => by kernel_rfl) (fun _ => trivial)) ?_
        intro _
        refine GR.callG (X := Option Addr × Nat) (i := 1) (g := 17) (ro := [Ent.all (sgs 59 nX59 c none b),Ent.all (nins nJ59 c b),.rd (some ⟨j,0,none⟩) 3 ([[.bool true,.pointer (sgp c none b),vI f]] : List (List Value))]) (mem' := fun ⟨k,e⟩ => [(1,Ent.all (sgs 59 nX59 c none b)),(2,Ent.all (nins nJ59 c b)),(3,.rd (some ⟨j,0,none⟩) 3 ([[.bool true,.pointer (sgp c none b),vI f]] : List (List Value))),(4,o5 k e d)]) (env' := fun ⟨k,e⟩ => [(1,vI a1),(2,vI a2),(28,.slice k d.length e)]) [] [4] [1,2,28] [1,2,3,4] false (by kernel_rfl) (by kernel_rfl) (by kernel_rfl) (by kernel_rfl) (by kernel_rfl) (fun _ => rfl) (fun _ _ => rfl) ⟨(.inl ⟨1,_,rfl,rfl,Cov.refl _,fun h => by cases h⟩),(.inl ⟨2,_,rfl,rfl,Cov.refl _,fun h => by cases h⟩),(.inl ⟨3,_,rfl,rfl,Cov.refl _,fun h => by cases h⟩),trivial⟩ (by rintro ⟨k,e⟩; kernel_rfl) (by rintro ⟨k,e⟩; kernel_rfl) (w___extent_Map__Bytes F j c b f u) ?_
        rintro ⟨k,e⟩
        refine grd_elim hm (fun m hm => ?_)
        refine GR.know (p := d.length ≤ e) (fun w hw => by first | (have h := (hw.ok 4 _ rfl).1.1; rw [List.length_map] at h; exact h) | (have h := (hw.ok 4 _ rfl).1.1; rw [nrows_len] at h; exact h) | simpa using (hw.ok 4 _ rfl).1.1) (fun n => ?_)
        refine GR.ru (i := 2) 3 (env' := fun _ => [(2,vI a2),(8,.slice (cutOb k (Int.toNat a1) e 1) (((d.drop (Int.toNat a1)).take (d.length - (Int.toNat a1))).length) (e - (Int.toNat a1)))]) (mem' := fun _ => [(4,o5 k e d)]) (by kernel_rfl) (RunsTo.mk [(3,{ act := .cut (Int.toNat a1) d.length e,sp := some (.slice (cutOb k (Int.toNat a1) e 1) (((d.drop (Int.toNat a1)).take (d.length - (Int.toNat a1))).length) (e - (Int.toNat a1))) })] [2,8] [4] (fun _ => [a1 = (((Int.toNat a1) : Nat) : Int),d.length = d.length,e = e,(Int.toNat a1) ≤ d.length,d.length ≤ e,e ≤ e,(none : Option Operand) = none → (none : Option Operand) = none,((.slice (if e = (Int.toNat a1) then k else (k).map (fun a => a.add ((Int.toNat a1) * 1))) (d.length - (Int.toNat a1)) (e - (Int.toNat a1))) : Value) = .slice (cutOb k (Int.toNat a1) e 1) (((d.drop (Int.toNat a1)).take (d.length - (Int.toNat a1))).length) (e - (Int.toNat a1))]) (fun _ => by kernel_rfl) (fun _ => ⟨m.eq,rfl,rfl,m.2,(Nat.le_trans (Nat.le_refl _) n),(Nat.le_refl _),(by intro h; first | rfl | cases h),slen (by simp only [List.length_take,List.length_drop]; have h1 : d.length ≤ d.length := (Nat.le_refl _); have h2 : (Int.toNat a1) ≤ d.length := m.2; omega),trivial⟩)) ?_
        intro _
        refine GR.setMem (mem' := [(5,.osl (cutOb k (Int.toNat a1) e 1) (e - (Int.toNat a1)) 5 1 (((List.map rB d).drop (Int.toNat a1)).take (d.length - (Int.toNat a1))))]) (fun w hw => own_cov (K := 4) (K2 := 5) [5] hw rfl rfl (own_cut m.2 (Nat.le_trans (Nat.le_refl _) n)) (by kernel_rfl)) ?_
        refine GR.conv (mem' := [(5,o5 (cutOb k (Int.toNat a1) e 1) (e - (Int.toNat a1)) ((d.drop (Int.toNat a1)).take (d.length - (Int.toNat a1))))]) rfl (congrArg (fun rr : List (List Value) => ([(5,.osl (cutOb k (Int.toNat a1) e 1) (e - (Int.toNat a1)) 5 1 rr)] : List (Nat × Ent))) (show ((List.map rB d).drop (Int.toNat a1)).take (d.length - (Int.toNat a1)) = List.map rB ((d.drop (Int.toNat a1)).take (d.length - (Int.toNat a1))) from (by simp only [List.drop_zero,Nat.sub_zero,List.map_take,List.map_drop]))) ?_
        refine GR.dn (by kernel_rfl) ?_
        refine GS.seq ?_
        refine grd_elim hm (fun o hm => ?_)
        refine GS.rgM (fun _ => [(6,.slice (cutOb (cutOb k (Int.toNat a1) e 1) 0 (e - (Int.toNat a1)) 1) ((((d.drop (Int.toNat a1)).take (d.length - (Int.toNat a1))).take (Int.toNat (if ((((d.drop (Int.toNat a1)).take (d.length - (Int.toNat a1))).length : Nat) : Int) < a2 then ((((d.drop (Int.toNat a1)).take (d.length - (Int.toNat a1))).length : Nat) : Int) else a2))).length) ((e - (Int.toNat a1)) - 0)),(7,vI 0)]) [(5,{ act := .cut 0 (Int.toNat (if ((((d.drop (Int.toNat a1)).take (d.length - (Int.toNat a1))).length : Nat) : Int) < a2 then ((((d.drop (Int.toNat a1)).take (d.length - (Int.toNat a1))).length : Nat) : Int) else a2)) (e - (Int.toNat a1)),sp := some (.slice (cutOb (cutOb k (Int.toNat a1) e 1) 0 (e - (Int.toNat a1)) 1) ((((d.drop (Int.toNat a1)).take (d.length - (Int.toNat a1))).take (Int.toNat (if ((((d.drop (Int.toNat a1)).take (d.length - (Int.toNat a1))).length : Nat) : Int) < a2 then ((((d.drop (Int.toNat a1)).take (d.length - (Int.toNat a1))).length : Nat) : Int) else a2))).length) ((e - (Int.toNat a1)) - 0)) })] [6,7] [5] (fun _ => [0 = 0,(if ((((d.drop (Int.toNat a1)).take (d.length - (Int.toNat a1))).length : Nat) : Int) < a2 then ((((d.drop (Int.toNat a1)).take (d.length - (Int.toNat a1))).length : Nat) : Int) else a2) = (((Int.toNat (if ((((d.drop (Int.toNat a1)).take (d.length - (Int.toNat a1))).length : Nat) : Int) < a2 then ((((d.drop (Int.toNat a1)).take (d.length - (Int.toNat a1))).length : Nat) : Int) else a2)) : Nat) : Int),(e - (Int.toNat a1)) = (e - (Int.toNat a1)),0 ≤ (Int.toNat (if ((((d.drop (Int.toNat a1)).take (d.length - (Int.toNat a1))).length : Nat) : Int) < a2 then ((((d.drop (Int.toNat a1)).take (d.length - (Int.toNat a1))).length : Nat) : Int) else a2)),(Int.toNat (if ((((d.drop (Int.toNat a1)).take (d.length - (Int.toNat a1))).length : Nat) : Int) < a2 then ((((d.drop (Int.toNat a1)).take (d.length - (Int.toNat a1))).length : Nat) : Int) else a2)) ≤ e - (Int.toNat a1),e - (Int.toNat a1) ≤ e - (Int.toNat a1),(some (Operand.tmp 35) : Option Operand) = none → (none : Option Operand) = none,((.slice (if e - (Int.toNat a1) = 0 then cutOb k (Int.toNat a1) e 1 else (cutOb k (Int.toNat a1) e 1).map (fun a => a.add (0 * 1))) ((Int.toNat (if ((((d.drop (Int.toNat a1)).take (d.length - (Int.toNat a1))).length : Nat) : Int) < a2 then ((((d.drop (Int.toNat a1)).take (d.length - (Int.toNat a1))).length : Nat) : Int) else a2)) - 0) ((e - (Int.toNat a1)) - 0)) : Value) = .slice (cutOb (cutOb k (Int.toNat a1) e 1) 0 (e - (Int.toNat a1)) 1) ((((d.drop (Int.toNat a1)).take (d.length - (Int.toNat a1))).take (Int.toNat (if ((((d.drop (Int.toNat a1)).take (d.length - (Int.toNat a1))).length : Nat) : Int) < a2 then ((((d.drop (Int.toNat a1)).take (d.length - (Int.toNat a1))).length : Nat) : Int) else a2))).length) ((e - (Int.toNat a1)) - 0)]) (fun _ => by kernel_rfl) (fun _ => ⟨rfl,o.eq,rfl,(Nat.zero_le _),(Nat.le_trans o.2 (by simp only [List.length_take,List.length_drop]; have h1 : d.length ≤ e := (Nat.le_trans (Nat.le_refl _) n); have h2 : (Int.toNat a1) ≤ d.length := m.2; omega)),(Nat.le_refl _),(by intro h; first | rfl | cases h),slen (by simp only [List.length_take,List.length_drop]; have h1 : (Int.toNat (if ((((d.drop (Int.toNat a1)).take (d.length - (Int.toNat a1))).length : Nat) : Int) < a2 then ((((d.drop (Int.toNat a1)).take (d.length - (Int.toNat a1))).length : Nat) : Int) else a2)) ≤ ((d.drop (Int.toNat a1)).take (d.length - (Int.toNat a1))).length := o.2; have h2 : 0 ≤ (Int.toNat (if ((((d.drop (Int.toNat a1)).take (d.length - (Int.toNat a1))).length : Nat) : Int) < a2 then ((((d.drop (Int.toNat a1)).take (d.length - (Int.toNat a1))).length : Nat) : Int) else a2)) := (Nat.zero_le _); omega),trivial⟩) ?_
        intro _
        refine GS.setMem (mem' := [(6,.osl (cutOb (cutOb k (Int.toNat a1) e 1) 0 (e - (Int.toNat a1)) 1) ((e - (Int.toNat a1)) - 0) 5 1 (((List.map rB ((d.drop (Int.toNat a1)).take (d.length - (Int.toNat a1)))).drop 0).take ((Int.toNat (if ((((d.drop (Int.toNat a1)).take (d.length - (Int.toNat a1))).length : Nat) : Int) < a2 then ((((d.drop (Int.toNat a1)).take (d.length - (Int.toNat a1))).length : Nat) : Int) else a2)) - 0)))]) (fun w hw => own_cov (K := 5) (K2 := 6) [6] hw rfl rfl (own_cut (Nat.zero_le _) (Nat.le_trans o.2 (by simp only [List.length_take,List.length_drop]; have h1 : d.length ≤ e := (Nat.le_trans (Nat.le_refl _) n); have h2 : (Int.toNat a1) ≤ d.length := m.2; omega))) (by kernel_rfl)) ?_
        refine GS.conv (mem' := [(6,o5 (cutOb (cutOb k (Int.toNat a1) e 1) 0 (e - (Int.toNat a1)) 1) ((e - (Int.toNat a1)) - 0) (((d.drop (Int.toNat a1)).take (d.length - (Int.toNat a1))).take (Int.toNat (if ((((d.drop (Int.toNat a1)).take (d.length - (Int.toNat a1))).length : Nat) : Int) < a2 then ((((d.drop (Int.toNat a1)).take (d.length - (Int.toNat a1))).length : Nat) : Int) else a2))))]) rfl (congrArg (fun rr : List (List Value) => ([(6,.osl (cutOb (cutOb k (Int.toNat a1) e 1) 0 (e - (Int.toNat a1)) 1) ((e - (Int.toNat a1)) - 0) 5 1 rr)] : List (Nat × Ent))) (show ((List.map rB ((d.drop (Int.toNat a1)).take (d.length - (Int.toNat a1)))).drop 0).take ((Int.toNat (if ((((d.drop (Int.toNat a1)).take (d.length - (Int.toNat a1))).length : Nat) : Int) < a2 then ((((d.drop (Int.toNat a1)).take (d.length - (Int.toNat a1))).length : Nat) : Int) else a2)) - 0) = List.map rB (((d.drop (Int.toNat a1)).take (d.length - (Int.toNat a1))).take (Int.toNat (if ((((d.drop (Int.toNat a1)).take (d.length - (Int.toNat a1))).length : Nat) : Int) < a2 then ((((d.drop (Int.toNat a1)).take (d.length - (Int.toNat a1))).length : Nat) : Int) else a2))) from (by simp only [List.drop_zero,Nat.sub_zero,List.map_take,List.map_drop]))) ?_
        have hy := Option.some.inj hm
        subst hy
        refine GS.ret (fn := Try.f11) [0,0] [.slice (cutOb (cutOb k (Int.toNat a1) e 1) 0 (e - (Int.toNat a1)) 1) ((((d.drop (Int.toNat a1)).take (d.length - (Int.toNat a1))).take (Int.toNat (if ((((d.drop (Int.toNat a1)).take (d.length - (Int.toNat a1))).length : Nat) : Int) < a2 then ((((d.drop (Int.toNat a1)).take (d.length - (Int.toNat a1))).length : Nat) : Int) else a2))).length) ((e - (Int.toNat a1)) - 0),vI 0] [] rfl Try.func11 (by kernel_rfl) trivial (fun w' hs => ?_)
        exact ⟨⟨cutOb (cutOb k (Int.toNat a1) e 1) 0 (e - (Int.toNat a1)) 1,(e - (Int.toNat a1)) - 0⟩,rfl,hs.turnedG (ks := [6]) rfl rfl⟩

theorem w___tholeref05_Map__Read (F : Nat) (l : Nat) (c : Option Addr) (d : Nat) (b : List UInt8) (e : Option Addr) (j : Nat) (g : List Bool) (a1 : Int) (a2 : Int) (p : b.length ≤ d) {y : List UInt8 × Int} (hm : m___tholeref05_Map__Read F b g a1 a2 = some y) : CallG Try.prog 32 #[pA l 0,vI a1,vI a2] (X := Option Addr × Nat) (fun ⟨x0,x1⟩ => .tuple #[.slice x0 y.1.length x1,vI y.2]) [] [r5 c b,r4 e g,.rd (some ⟨l,0,none⟩) 2 ([[.slice c b.length d,.slice e g.length j]] : List (List Value))] (fun ⟨x0,x1⟩ => [o5 x0 x1 y.1]) := by
  intro w hg
  rw [m___tholeref05_Map__Read] at hm
  refine GS.start (S := mayT [] [r5 c b,r4 e g,.rd (some ⟨l,0,none⟩) 2 ([[.slice c b.length d,.slice e g.length j]] : List (List Value))]) (mem := [(1,r5 c b),(2,r4 e g),(3,.rd (some ⟨l,0,none⟩) 2 ([[.slice c b.length d,.slice e g.length j]] : List (List Value)))]) Try.func32 rfl Try.ntmps32 (Nat.le_of_ble_eq_true rfl) (hg.start rfl) ?_
  refine GS.conv (env' := [(0,pA l 0),(1,vI a1),(2,vI a2)]) rfl rfl ?_
  refine GS.seq ?_
  refine GS.rzM (fun _ => [(0,pA l 0),(1,vI a1),(2,vI a2)]) [] [0,1,2] [1,2,3] (fun _ => by kernel_rfl) ?_
  intro _
  refine GS.seq ?_
  refine GS.seq ?_
  refine jn_elim hm (fun J4 B hm => ?_)
  refine GS.cut (ι := Bool) (I := fun (o : Bool) => J4 o = some y) (E := fun (o : Bool) => [(0,pA l 0),(1,vI a1),(2,vI a2),(13,.bool o)]) (M := fun (o : Bool) => [(1,r5 c b),(2,r4 e g),(3,.rd (some ⟨l,0,none⟩) 2 ([[.slice c b.length d,.slice e g.length j]] : List (List Value)))]) ?_ ?_
  rotate_left
  · intro H5
    refine br_elim hm (fun h3 hm => ?_) (fun h3 hm => ?_)
    · skip
      refine GS.rgM (fun _ => [(0,pA l 0),(1,vI a1),(2,vI a2),(13,.bool true)]) [(2,{ sp := some (.bool true) })] [0,1,2,13] [1,2,3] (fun _ => [((.bool (decide (a1 < 0))) : Value) = .bool true]) (fun _ => by kernel_rfl) (fun _ => ⟨bool_eq h3,trivial⟩) ?_
      intro _
      refine GS.rekey (env' := [(0,pA l 0),(1,vI a1),(2,vI a2),(13,.bool true)]) (mem' := [(1,r5 c b),(2,r4 e g),(3,.rd (some ⟨l,0,none⟩) 2 ([[.slice c b.length d,.slice e g.length j]] : List (List Value)))]) [0,1,2,13] [(1,1),(2,2),(3,3)] (by kernel_rfl) (by kernel_rfl) rfl ?_
      exact H5 true hm
    · skip
      refine GS.rgM (fun _ => [(0,pA l 0),(1,vI a1),(2,vI a2),(13,.bool (decide (a2 < 0)))]) [(2,{ sp := some (.bool false) })] [0,1,2,13] [1,2,3] (fun _ => [((.bool (decide (a1 < 0))) : Value) = .bool false]) (fun _ => by kernel_rfl) (fun _ => ⟨bool_eq h3,trivial⟩) ?_
      intro _
      refine GS.rekey (env' := [(0,pA l 0),(1,vI a1),(2,vI a2),(13,.bool (decide (a2 < 0)))]) (mem' := [(1,r5 c b),(2,r4 e g),(3,.rd (some ⟨l,0,none⟩) 2 ([[.slice c b.length d,.slice e g.length j]] : List (List Value)))]) [0,1,2,13] [(1,1),(2,2),(3,3)] (by kernel_rfl) (by kernel_rfl) rfl ?_
      exact H5 (decide (a2 < 0)) hm
  · rintro o hm
    replace hm := (B _).symm.trans hm
    try dsimp only at hm
    refine GS.cond (t := o) rfl rfl (fun h7 => ?_) (fun h7 => ?_)
    · replace hm := br_t h7 hm
      refine GS.seq ?_
      refine GS.rz (fun _ => [(6,.slice none 0 0),(7,vI 22)]) (fun _ => []) [] [6,7] [] (fun _ => by kernel_rfl) ?_
      intro _
      refine GS.setMem (mem' := [(4,o5 none 0 ([] : List UInt8))]) (fun w hw => Sat.addNil hw rfl) ?_
      have hy := Option.some.inj hm
      subst hy
      refine GS.ret (fn := Try.f32) [0,0] [.slice none 0 0,vI 22] [] rfl Try.func32 (by kernel_rfl) trivial (fun w' hs => ?_)
      exact ⟨⟨none,0⟩,rfl,hs.turnedG (ks := [4]) rfl rfl⟩
    · replace hm := br_f h7 hm
      refine GS.skip ?_
      refine GS.seq ?_
      refine GS.seq ?_
      refine GS.rgM (fun _ => [(0,pA l 0),(1,vI a1),(2,vI a2),(20,.bool (decide (a1 ≥ (b.length : Int))))]) [(4,{ act := .load 3 0 0 [.slice c b.length d,.slice e g.length j] })] [0,1,2,20] [1,2,3] (fun _ => [l = blk (some ⟨l,0,none⟩),0 = offs (some ⟨l,0,none⟩) + (0 * 2 + 0),([[.slice c b.length d,.slice e g.length j]] : List (List Value))[0]? = some [.slice c b.length d,.slice e g.length j]]) (fun _ => by kernel_rfl) (fun _ => ⟨rfl,rfl,rfl,trivial⟩) ?_
      intro _
      refine GS.cond (t := decide (a1 ≥ (b.length : Int))) rfl rfl (fun s => ?_) (fun s => ?_)
      · replace hm := br_t s hm
        refine GS.seq ?_
        refine GS.rz (fun _ => [(6,.slice none 0 0),(7,vI 0)]) (fun _ => []) [] [6,7] [] (fun _ => by kernel_rfl) ?_
        intro _
        refine GS.setMem (mem' := [(4,o5 none 0 ([] : List UInt8))]) (fun w hw => Sat.addNil hw rfl) ?_
        have hy := Option.some.inj hm
        subst hy
        refine GS.ret (fn := Try.f32) [0,0] [.slice none 0 0,vI 0] [] rfl Try.func32 (by kernel_rfl) trivial (fun w' hs => ?_)
        exact ⟨⟨none,0⟩,rfl,hs.turnedG (ks := [4]) rfl rfl⟩
      · replace hm := br_f s hm
        refine GS.skip ?_
        refine GS.seq ?_
        refine GS.seq ?_
        refine grd_elim hm (fun v hm => ?_)
        refine GS.rgM (fun _ => [(0,pA l 0),(1,vI a1),(2,vI a2),(29,.bool (decide (a2 > ((b.length : Int) - a1))))]) [(4,{ act := .load 3 0 0 [.slice c b.length d,.slice e g.length j] }),(7,{ sp := some (vI ((b.length : Int) - a1)) })] [0,1,2,29] [1,2,3] (fun _ => [l = blk (some ⟨l,0,none⟩),0 = offs (some ⟨l,0,none⟩) + (0 * 2 + 0),([[.slice c b.length d,.slice e g.length j]] : List (List Value))[0]? = some [.slice c b.length d,.slice e g.length j],oW ((b.length : Int) - a1)]) (fun _ => by kernel_rfl) (fun _ => ⟨rfl,rfl,rfl,I64.w v,trivial⟩) ?_
        intro _
        refine jn_elim hm (fun C z hm => ?_)
        refine GS.cut (ι := Int) (I := fun (k : Int) => C k = some y) (E := fun (k : Int) => [(0,pA l 0),(1,vI a1),(2,vI k)]) (M := fun (k : Int) => [(1,r5 c b),(2,r4 e g),(3,.rd (some ⟨l,0,none⟩) 2 ([[.slice c b.length d,.slice e g.length j]] : List (List Value)))]) ?_ ?_
        rotate_left
        · intro A
          refine GS.cond (t := decide (a2 > ((b.length : Int) - a1))) rfl rfl (fun u => ?_) (fun u => ?_)
          · replace hm := br_t u hm
            refine GS.rgM (fun _ => [(0,pA l 0),(1,vI a1),(2,vI ((b.length : Int) - a1))]) [(3,{ act := .load 3 0 0 [.slice c b.length d,.slice e g.length j] }),(6,{ sp := some (vI ((b.length : Int) - a1)) })] [0,1,2] [1,2,3] (fun _ => [l = blk (some ⟨l,0,none⟩),0 = offs (some ⟨l,0,none⟩) + (0 * 2 + 0),([[.slice c b.length d,.slice e g.length j]] : List (List Value))[0]? = some [.slice c b.length d,.slice e g.length j],oW ((b.length : Int) - a1)]) (fun _ => by kernel_rfl) (fun _ => ⟨rfl,rfl,rfl,I64.w v,trivial⟩) ?_
            intro _
            refine GS.rekey (env' := [(0,pA l 0),(1,vI a1),(2,vI ((b.length : Int) - a1))]) (mem' := [(1,r5 c b),(2,r4 e g),(3,.rd (some ⟨l,0,none⟩) 2 ([[.slice c b.length d,.slice e g.length j]] : List (List Value)))]) [0,1,2] [(1,1),(2,2),(3,3)] (by kernel_rfl) (by kernel_rfl) rfl ?_
            exact A ((b.length : Int) - a1) hm
          · replace hm := br_f u hm
            refine GS.skip ?_
            refine GS.rekey (env' := [(0,pA l 0),(1,vI a1),(2,vI a2)]) (mem' := [(1,r5 c b),(2,r4 e g),(3,.rd (some ⟨l,0,none⟩) 2 ([[.slice c b.length d,.slice e g.length j]] : List (List Value)))]) [0,1,2] [(1,1),(2,2),(3,3)] (by kernel_rfl) (by kernel_rfl) rfl ?_
            exact A a2 hm
        · rintro k hm
          replace hm := (z _).symm.trans hm
          try dsimp only at hm
          refine GS.seq ?_
          refine grd_elim hm (fun D hm => ?_)
          refine grd_elim hm (fun q hm => ?_)
          refine grd_elim hm (fun r hm => ?_)
          refine GS.open_ ?_
          refine GR.ru (i := 0) 10 (env' := fun n => [(37,.slice (some (Addr.mk (n 0).x 0 none)) ((([] : List UInt8) : List UInt8).length) 0),(46,.slice (cutOb c (Int.toNat a1) d 1) (((b.drop (Int.toNat a1)).take ((Int.toNat (a1 + k)) - (Int.toNat a1))).length) (d - (Int.toNat a1)))]) (mem' := fun n => [(1,r5 c b),(4,.osl (some (Addr.mk (n 0).x 0 none)) 0 5 1 ([] : List (List Value)))]) (by kernel_rfl) (RunsTo.mk [(0,{ act := .new (.row 0 1),key := some 4,spf := some (fun f => .slice (some (Addr.mk f.x 0 none)) ((([] : List UInt8) : List UInt8).length) 0) }),(4,{ act := .load 3 0 0 [.slice c b.length d,.slice e g.length j] }),(8,{ sp := some (vI (a1 + k)) }),(9,{ act := .cut (Int.toNat a1) (Int.toNat (a1 + k)) d,sp := some (.slice (cutOb c (Int.toNat a1) d 1) (((b.drop (Int.toNat a1)).take ((Int.toNat (a1 + k)) - (Int.toNat a1))).length) (d - (Int.toNat a1))) })] [37,46] [1,4] (fun n => [((.slice (some (Addr.mk (n 0).x 0 none)) 0 0) : Value) = .slice (some (Addr.mk (n 0).x 0 none)) ((([] : List UInt8) : List UInt8).length) 0,l = blk (some ⟨l,0,none⟩),0 = offs (some ⟨l,0,none⟩) + (0 * 2 + 0),([[.slice c b.length d,.slice e g.length j]] : List (List Value))[0]? = some [.slice c b.length d,.slice e g.length j],oW (a1 + k),a1 = (((Int.toNat a1) : Nat) : Int),(a1 + k) = (((Int.toNat (a1 + k)) : Nat) : Int),d = d,(Int.toNat a1) ≤ (Int.toNat (a1 + k)),(Int.toNat (a1 + k)) ≤ d,d ≤ d,(some (Operand.tmp 45) : Option Operand) = none → (none : Option Operand) = none,((.slice (if d = (Int.toNat a1) then c else (c).map (fun a => a.add ((Int.toNat a1) * 1))) ((Int.toNat (a1 + k)) - (Int.toNat a1)) (d - (Int.toNat a1))) : Value) = .slice (cutOb c (Int.toNat a1) d 1) (((b.drop (Int.toNat a1)).take ((Int.toNat (a1 + k)) - (Int.toNat a1))).length) (d - (Int.toNat a1))]) (fun n => by kernel_rfl) (fun n => ⟨rfl,rfl,rfl,rfl,I64.w D,r.eq,q.eq,rfl,r.2,(Nat.le_trans q.2 p),(Nat.le_refl _),(by intro h; first | rfl | cases h),slen (by simp only [List.length_take,List.length_drop]; have h1 : (Int.toNat (a1 + k)) ≤ b.length := q.2; have h2 : (Int.toNat a1) ≤ (Int.toNat (a1 + k)) := r.2; omega),trivial⟩)) ?_
          intro n
          refine GR.conv (mem' := [(1,r5 c b),(4,o5 (some (Addr.mk (n 0).x 0 none)) 0 ([] : List UInt8))]) rfl (congrArg (fun rr : List (List Value) => ([(1,r5 c b),(4,.osl (some (Addr.mk (n 0).x 0 none)) 0 5 1 rr)] : List (Nat × Ent))) (show ([] : List (List Value)) = List.map rB ([] : List UInt8) from rfl)) ?_
          refine GR.setMem (mem' := [(1,r5 c b),(4,o5 (some (Addr.mk (n 0).x 0 none)) 0 ([] : List UInt8)),(5,.rd (cutOb c (Int.toNat a1) d 1) 1 (((List.map rB b).drop (Int.toNat a1)).take ((Int.toNat (a1 + k)) - (Int.toNat a1))))]) (fun w hw => Sat.addCov (k0 := 1) hw rfl rfl rfl (rd_cut r.2 (Nat.le_trans q.2 p)) rfl) ?_
          refine GR.conv (mem' := [(1,r5 c b),(4,o5 (some (Addr.mk (n 0).x 0 none)) 0 ([] : List UInt8)),(5,r5 (cutOb c (Int.toNat a1) d 1) ((b.drop (Int.toNat a1)).take ((Int.toNat (a1 + k)) - (Int.toNat a1))))]) rfl (congrArg (fun rr : List (List Value) => ([(1,r5 c b),(4,o5 (some (Addr.mk (n 0).x 0 none)) 0 ([] : List UInt8)),(5,.rd (cutOb c (Int.toNat a1) d 1) 1 rr)] : List (Nat × Ent))) (show ((List.map rB b).drop (Int.toNat a1)).take ((Int.toNat (a1 + k)) - (Int.toNat a1)) = List.map rB ((b.drop (Int.toNat a1)).take ((Int.toNat (a1 + k)) - (Int.toNat a1))) from (by simp only [List.drop_zero,Nat.sub_zero,List.map_take,List.map_drop]))) ?_
          refine grd_elim hm (fun G hm => ?_)
          refine GR.ru (i := 10) 3 (env' := fun m => [(6,.slice ((m 10).ob) ((([] : List UInt8) ++ ((b.drop (Int.toNat a1)).take ((Int.toNat (a1 + k)) - (Int.toNat a1)))).length) ((m 10).cap)),(7,vI 0)]) (mem' := fun m => [(4,.osl ((m 10).ob) ((m 10).cap) 5 1 ((List.map rB ([] : List UInt8)) ++ (List.map rB ((b.drop (Int.toNat a1)).take ((Int.toNat (a1 + k)) - (Int.toNat a1))))))]) (by kernel_rfl) (RunsTo.mk [(10,{ act := .app (some 5),key := some 4,spf := some (fun f => .slice (f.ob) ((([] : List UInt8) ++ ((b.drop (Int.toNat a1)).take ((Int.toNat (a1 + k)) - (Int.toNat a1)))).length) (f.cap)) })] [6,7] [4] (fun m => [(cutOb c (Int.toNat a1) d 1) = (cutOb c (Int.toNat a1) d 1),((b.drop (Int.toNat a1)).take ((Int.toNat (a1 + k)) - (Int.toNat a1))).length = (List.map rB ((b.drop (Int.toNat a1)).take ((Int.toNat (a1 + k)) - (Int.toNat a1)))).length,(some (Addr.mk (n 0).x 0 none)) = (some (Addr.mk (n 0).x 0 none)),0 = 0,(([] : List UInt8) : List UInt8).length = (List.map rB ([] : List UInt8)).length,((List.map rB ([] : List UInt8)).length + (List.map rB ((b.drop (Int.toNat a1)).take ((Int.toNat (a1 + k)) - (Int.toNat a1)))).length) * (1 + 1) ≤ 70368744177664,(List.map rB ((b.drop (Int.toNat a1)).take ((Int.toNat (a1 + k)) - (Int.toNat a1)))).flatten.all Value.oneCell' = true,((.slice ((m 10).ob) (((([] : List UInt8) : List UInt8).length) + (List.map rB ((b.drop (Int.toNat a1)).take ((Int.toNat (a1 + k)) - (Int.toNat a1)))).length) ((m 10).cap)) : Value) = .slice ((m 10).ob) ((([] : List UInt8) ++ ((b.drop (Int.toNat a1)).take ((Int.toNat (a1 + k)) - (Int.toNat a1)))).length) ((m 10).cap)]) (fun m => by kernel_rfl) (fun m => ⟨rfl,mlen rB ((b.drop (Int.toNat a1)).take ((Int.toNat (a1 + k)) - (Int.toNat a1))),rfl,rfl,mlen rB ([] : List UInt8),appb G (mlen rB ([] : List UInt8)).symm (mlen rB ((b.drop (Int.toNat a1)).take ((Int.toNat (a1 + k)) - (Int.toNat a1)))).symm,(by rw [show List.map rB ((b.drop (Int.toNat a1)).take ((Int.toNat (a1 + k)) - (Int.toNat a1))) = List.map rB ((b.drop (Int.toNat a1)).take ((Int.toNat (a1 + k)) - (Int.toNat a1))) from rfl]; exact all_one rB _ (fun _ => rfl)),slen (by simp),trivial⟩)) ?_
          intro m
          refine GR.conv (mem' := [(4,o5 ((m 10).ob) ((m 10).cap) (([] : List UInt8) ++ ((b.drop (Int.toNat a1)).take ((Int.toNat (a1 + k)) - (Int.toNat a1)))))]) rfl (congrArg (fun rr : List (List Value) => ([(4,.osl ((m 10).ob) ((m 10).cap) 5 1 rr)] : List (Nat × Ent))) (show (List.map rB ([] : List UInt8)) ++ (List.map rB ((b.drop (Int.toNat a1)).take ((Int.toNat (a1 + k)) - (Int.toNat a1)))) = List.map rB (([] : List UInt8) ++ ((b.drop (Int.toNat a1)).take ((Int.toNat (a1 + k)) - (Int.toNat a1)))) from (by rw [show List.map rB ([] : List UInt8) = List.map rB ([] : List UInt8) from rfl,show List.map rB ((b.drop (Int.toNat a1)).take ((Int.toNat (a1 + k)) - (Int.toNat a1))) = List.map rB ((b.drop (Int.toNat a1)).take ((Int.toNat (a1 + k)) - (Int.toNat a1))) from rfl]; exact mapp rB _ _))) ?_
          refine GR.dn (by kernel_rfl) ?_
          have hy := Option.some.inj hm
          subst hy
          refine GS.ret (fn := Try.f32) [0,0] [.slice ((m 10).ob) ((([] : List UInt8) ++ ((b.drop (Int.toNat a1)).take ((Int.toNat (a1 + k)) - (Int.toNat a1)))).length) ((m 10).cap),vI 0] [] rfl Try.func32 (by kernel_rfl) trivial (fun w' hs => ?_)
          exact ⟨⟨(m 10).ob,(m 10).cap⟩,rfl,hs.turnedG (ks := [4]) rfl rfl⟩

theorem w_tholeref01_Same (F : Nat) (a : Option Addr) (c : Nat) (a0 : List UInt8) (b : Option Addr) (d : Nat) (a1 : List UInt8) {y : Bool} (hm : m_tholeref01_Same F a0 a1 = some y) : CallG Try.prog 12 #[.slice a a0.length c,.slice b a1.length d] (X := Unit) (fun (_ : Unit) => .bool y) [] [r5 a a0,r5 b a1] (fun (_ : Unit) => []) := by
  intro w hg
  rw [m_tholeref01_Same] at hm
  refine GS.start (S := mayT [] [r5 a a0,r5 b a1]) (mem := [(1,r5 a a0),(2,r5 b a1)]) Try.func12 rfl Try.ntmps12 (Nat.le_of_ble_eq_true rfl) (hg.start rfl) ?_
  refine GS.conv (env' := [(0,.slice a a0.length c),(1,.slice b a1.length d)]) rfl rfl ?_
  refine GS.seq ?_
  refine GS.rzM (fun _ => [(0,.slice a a0.length c),(1,.slice b a1.length d)]) [] [0,1] [1,2] (fun _ => by kernel_rfl) ?_
  intro _
  refine GS.seq ?_
  refine GS.rg (fun _ => [(4,.bool ((ByteArray.mk a0.toArray).toList == (ByteArray.mk a1.toArray).toList))]) (fun _ => []) [(1,{ act := .text 1 a0 }),(3,{ act := .text 2 a1 })] [4] [] (fun _ => [a = a,a0.length = (List.map rB a0).length,List.map rB a0 = encB a0,b = b,a1.length = (List.map rB a1).length,List.map rB a1 = encB a1]) (fun _ => by kernel_rfl) (fun _ => ⟨rfl,mlen rB a0,rfl,rfl,mlen rB a1,rfl,trivial⟩) ?_
  intro _
  have hy := Option.some.inj hm
  subst hy
  refine GS.ret (fn := Try.f12) [0] [.bool ((ByteArray.mk a0.toArray).toList == (ByteArray.mk a1.toArray).toList)] [] rfl Try.func12 (by kernel_rfl) trivial (fun w' hs => ?_)
  exact ⟨(),rfl,hs.turnedG (ks := []) rfl rfl⟩

end Go.Proofs.Ytmdfkklldbfocaa
