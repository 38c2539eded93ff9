/-
 CHAPTER 18o: the functions do what their models say (4).
-/
import Derived.Test.YtjnbkhnebmlilaaGreatE18o
import Derived.Test.YtjnbkhnebmlilaaGreatW18oa
import Derived.Test.YtjnbkhnebmlilaaGreatW18ob
import Derived.Test.YtjnbkhnebmlilaaGreatW18oc
import Derived.Test.YtjnbkhnebmlilaaGreatI18
set_option linter.unusedVariables false
set_option linter.unusedSimpArgs false
set_option maxRecDepth 100000
set_option maxHeartbeats 8000000
namespace Go.Proofs.YtjnbkhnebmlilaaGreat
open Go Go.RowKit Sx

theorem w_pglog_Append (F : Nat) (C : Int) (m : S_api_Version) (l : Option Addr) (A : Nat) (n : List S_api_Entry) (d : Option Addr) (o : Nat) (k : List S_api_Last) (e : Option Addr) (q : Nat) (j : List S_api_Item) (a1 : S_api_Entry) (a2 : Int) {y : Int × S_api_Version × List S_api_Entry × List S_api_Last × List S_api_Item × Int} (hm : m_pglog_Append F C m n k j a1 a2 = some y) : CallG Tryz.prog 33 #[.agg ((kc15 C m.Epoch m.N l n.length A d k.length o e j.length q)).toArray,.agg ((kc35 a1.Version.Epoch a1.Version.N a1.Remove a1.Errno a1.Name a1.Client a1.Number)).toArray,.int .u32 a2] (X := Option Addr × Nat × Option Addr × Nat × Option Addr × Nat) (fun ⟨x0,x1,x2,x3,x4,x5⟩ => .tuple #[.agg ((kc15 y.1 y.2.1.Epoch y.2.1.N x0 y.2.2.1.length x1 x2 y.2.2.2.1.length x3 x4 y.2.2.2.2.1.length x5)).toArray,vI y.2.2.2.2.2]) [] [r31 l n,r94 d k,r91 e j] (fun ⟨x0,x1,x2,x3,x4,x5⟩ => [o31 x0 x1 y.2.2.1,o94 x2 x3 y.2.2.2.1,o91 x4 x5 y.2.2.2.2.1]) := by
 rw [m_pglog_Append] at hm
 refine GS.st Tryz.func33 Tryz.ntmps33 (fun w => ?_)
 refine GS.seq ?_
 refine GS.dg [0,1] (fun b => [(3,pA ((b 0).x) 0),(4,pA ((b 1).x) 0),(6,pA ((b 2).x) 0)]) [] (fun b => [(4,.cells ((b 0).x) 28 (kc15 C m.Epoch m.N l n.length A d k.length o e j.length q)),(5,.cells ((b 1).x) 31 (kc35 a1.Version.Epoch a1.Version.N a1.Remove a1.Errno a1.Name a1.Client a1.Number)),(6,.cells ((b 2).x) 28 (kc1))]) [(0,hN 4),(1,hN 5),(2,hN 6)] (fun b => []) (fun b => ?_)
 refine GS.seq ?_
 refine bnd_elim hm (fun y3 e4 hm => ?_)
 refine GS.dg [] (fun ad => [(9,.bool y3.2)]) [] (fun ad => []) [(0,hL 4 0 0),(2,hL 5 0 0),(3,hC [1,2,3] (.tuple #[.agg ((kc33 y3.1.Name y3.1.Version.Epoch y3.1.Version.N y3.1.Crc)).toArray,.bool y3.2])),(7,hN 7),(8,hS 7)] (fun ad => [qE ((b 0).x),qE ((b 1).x),⟨(w_pglog_Find F C m l A n d o k e q j a1.Name e4).ok (es := [some (r31 l n),some (r94 d k),some (r91 e j)]) ⟨(.inl ⟨_,mm0,Cov.refl _⟩),(.inl ⟨_,mm1,Cov.refl _⟩),(.inl ⟨_,mm2,Cov.refl _⟩),trivial⟩⟩,qE ((ad 7).x),qE true]) (fun ad => ?_)
 refine GS.seq ?_
 refine GS.block ?_
 refine GS.seq ?_
 refine jn_elim hm (fun a7 az hm => ?_)
 refine GS.cu (ι := Bool) (fun (V : Bool) => a7 V = some y) [] (fun (V : Bool) => [(23,.bool V)]) [] (fun (V : Bool) => []) ?_ ?_
 rotate_left
 ·intro aj
  refine bnd_elim hm (fun y6 e7 hm => ?_)
  refine bnd_elim hm (fun y8 e9 hm => ?_)
  refine br_elim hm (fun af hm => ?_) (fun af hm => ?_)
  ·skip
   refine GS.yg [] [(23,.bool true)] [] [] [(1,hL 5 0 0),(2,hL 4 0 0),(3,hC [1,2,3] (.agg #[vI y6.Epoch,vI y6.N])),(4,hC [] (vI y8)),(6,hP (.bool true))] [qE ((b 1).x),qE ((b 0).x),⟨(w_pglog_Head F C m l A n d o k e q j e7).ok (es := [some (r31 l n),some (r94 d k),some (r91 e j)]) ⟨(.inl ⟨_,mm0,Cov.refl _⟩),(.inl ⟨_,mm1,Cov.refl _⟩),(.inl ⟨_,mm2,Cov.refl _⟩),trivial⟩⟩,⟨(w_pglog_Cmp F a1.Version y6 e9).ok (es := []) trivial⟩,⟨bool_eq af⟩] ?_
   exact GS.rs (aj true hm)
  ·skip
   refine br_elim hm (fun ak hm => ?_) (fun ak hm => ?_)
   ·skip
    refine GS.yg [] [(23,.bool true)] [] [] [(1,hL 5 0 0),(2,hL 4 0 0),(3,hC [1,2,3] (.agg #[vI y6.Epoch,vI y6.N])),(4,hC [] (vI y8)),(6,hP (.bool false)),(8,hL 5 0 0),(11,hP (.bool true))] [qE ((b 1).x),qE ((b 0).x),⟨(w_pglog_Head F C m l A n d o k e q j e7).ok (es := [some (r31 l n),some (r94 d k),some (r91 e j)]) ⟨(.inl ⟨_,mm0,Cov.refl _⟩),(.inl ⟨_,mm1,Cov.refl _⟩),(.inl ⟨_,mm2,Cov.refl _⟩),trivial⟩⟩,⟨(w_pglog_Cmp F a1.Version y6 e9).ok (es := []) trivial⟩,⟨bool_eq af⟩,qE ((b 1).x),⟨bool_eq ak⟩] ?_
    exact GS.rs (aj true hm)
   ·skip
    refine GS.yg [] [(23,.bool (decide (a1.Number < 0)))] [] [] [(1,hL 5 0 0),(2,hL 4 0 0),(3,hC [1,2,3] (.agg #[vI y6.Epoch,vI y6.N])),(4,hC [] (vI y8)),(6,hP (.bool false)),(8,hL 5 0 0),(11,hP (.bool false)),(13,hL 5 0 0)] [qE ((b 1).x),qE ((b 0).x),⟨(w_pglog_Head F C m l A n d o k e q j e7).ok (es := [some (r31 l n),some (r94 d k),some (r91 e j)]) ⟨(.inl ⟨_,mm0,Cov.refl _⟩),(.inl ⟨_,mm1,Cov.refl _⟩),(.inl ⟨_,mm2,Cov.refl _⟩),trivial⟩⟩,⟨(w_pglog_Cmp F a1.Version y6 e9).ok (es := []) trivial⟩,⟨bool_eq af⟩,qE ((b 1).x),⟨bool_eq ak⟩,qE ((b 1).x)] ?_
    exact GS.rs (aj (decide (a1.Number < 0)) hm)
 ·rintro V hm
  replace hm := (az _).symm.trans hm
  try dsimp only at hm
  refine GS.cd V (fun al => ?_) (fun al => ?_)
  ·replace hm := br_t al hm
   refine GS.seq ?_
   refine GS.eg [2,3,4,9,23] [(7,vI 22)] [1,2,3,4,5] [] [(1,hS 6)] [qE ((b 2).x),qE true] ?_
   refine GS.an 8 31 7 ?_
   refine GS.an 9 94 5 ?_
   refine GS.an 10 91 4 ?_
   have hy := Option.some.inj hm
   subst hy
   exact GS.rw [6,0] [.agg ((kc1)).toArray,vI 22] [qE ((b 2).x)] Tryz.func33 ⟨none,0,none,0,none,0⟩ [8,9,10]
  ·replace hm := br_f al hm
   refine GS.seq ?_
   refine bnd_elim hm (fun ag a8 hm => ?_)
   refine GS.eg [23] [(41,.bool (!ag))] [] [] [(1,hL 5 0 0),(2,hC [] (.bool ag))] [qE ((b 1).x),⟨(w_place_Good F a1.Name a8).ok (es := []) trivial⟩] ?_
   refine GS.cd (!ag) (fun am => ?_) (fun am => ?_)
   ·replace hm := br_t am hm
    refine GS.seq ?_
    refine GS.eg [2,3,4,9,41] [(7,vI 36)] [1,2,3,4,5] [] [(1,hS 6)] [qE ((b 2).x),qE true] ?_
    refine GS.an 8 31 7 ?_
    refine GS.an 9 94 5 ?_
    refine GS.an 10 91 4 ?_
    have hy := Option.some.inj hm
    subst hy
    exact GS.rw [6,0] [.agg ((kc1)).toArray,vI 36] [qE ((b 2).x)] Tryz.func33 ⟨none,0,none,0,none,0⟩ [8,9,10]
   ·replace hm := br_f am hm
    refine GS.seq ?_
    refine jn_elim hm (fun a9 a0 hm => ?_)
    refine GS.cu (ι := Bool) (fun (W : Bool) => a9 W = some y) [9,41] (fun (W : Bool) => [(47,.bool W)]) [] (fun (W : Bool) => []) ?_ ?_
    rotate_left
    ·intro ah
     refine br_elim hm (fun ae hm => ?_) (fun ae hm => ?_)
     ·skip
      refine br_elim hm (fun ai hm => ?_) (fun ai hm => ?_)
      ·skip
       refine br_elim hm (fun an hm => ?_) (fun an hm => ?_)
       ·skip
        refine GS.eg [9,41] [(47,.bool (decide ((j.length : Int) ≥ 32)))] [] [] [(1,hL 5 0 0),(3,hP (.bool true)),(5,hL 5 0 0),(8,hP (.bool true)),(12,hP (.bool true)),(14,hL 4 0 0)] [qE ((b 1).x),⟨bool_eq ae⟩,qE ((b 1).x),⟨bool_eq ai⟩,⟨bool_eq an⟩,qE ((b 0).x)] ?_
        exact GS.rs (ah (decide ((j.length : Int) ≥ 32)) hm)
       ·skip
        refine GS.eg [9,41] [(47,.bool false)] [] [] [(1,hL 5 0 0),(3,hP (.bool true)),(5,hL 5 0 0),(8,hP (.bool true)),(12,hP (.bool false))] [qE ((b 1).x),⟨bool_eq ae⟩,qE ((b 1).x),⟨bool_eq ai⟩,⟨bool_eq an⟩] ?_
        exact GS.rs (ah false hm)
      ·skip
       refine GS.eg [9,41] [(47,.bool false)] [] [] [(1,hL 5 0 0),(3,hP (.bool true)),(5,hL 5 0 0),(8,hP (.bool false))] [qE ((b 1).x),⟨bool_eq ae⟩,qE ((b 1).x),⟨bool_eq ai⟩] ?_
       exact GS.rs (ah false hm)
     ·skip
      refine GS.eg [9,41] [(47,.bool false)] [] [] [(1,hL 5 0 0),(3,hP (.bool false))] [qE ((b 1).x),⟨bool_eq ae⟩] ?_
      exact GS.rs (ah false hm)
    ·rintro W hm
     replace hm := (a0 _).symm.trans hm
     try dsimp only at hm
     refine GS.cd W (fun ao => ?_) (fun ao => ?_)
     ·replace hm := br_t ao hm
      refine GS.seq ?_
      refine GS.eg [2,3,4,47] [(7,vI 28)] [1,2,3,4,5] [] [(1,hS 6)] [qE ((b 2).x),qE true] ?_
      refine GS.an 8 31 7 ?_
      refine GS.an 9 94 5 ?_
      refine GS.an 10 91 4 ?_
      have hy := Option.some.inj hm
      subst hy
      exact GS.rw [6,0] [.agg ((kc1)).toArray,vI 28] [qE ((b 2).x)] Tryz.func33 ⟨none,0,none,0,none,0⟩ [8,9,10]
     ·replace hm := br_f ao hm
      refine GS.skip ?_
      refine GS.inBlock ?_
      refine GS.seq ?_
      refine bnd_elim hm (fun a ba hm => ?_)
      refine GS.open_ ?_
      refine GR.eu 1 [47] [(67,.agg ((kc15 C m.Epoch m.N l n.length A d k.length o e j.length q)).toArray)] [] [] [(0,hL 4 0 0)] [qE ((b 0).x)] ?_
      refine GR.cg (w_pglog_Copy_2 F C m l A n d o k e q j ba) [] [8,9,10] [67] [] ⟨rR 1,rR 2,rR 3,trivial⟩ ?_
      rintro ⟨aa,ab,G,H,r,v⟩
      refine GR.eu 1 [68] [] [1,2,3] [(4,.cells ((b 0).x) 28 (kc15 a.1 a.2.1.Epoch a.2.1.N aa a.2.2.1.length ab G a.2.2.2.1.length H r a.2.2.2.2.length v))] [(2,hS 4)] [qE ((b 0).x),qE true] ?_
      refine GR.dm ?_
      refine GS.seq ?_
      refine grd_elim hm (fun bb hm => ?_)
      refine GS.dg [] (fun c => []) [] (fun c => [(4,.cells ((b 0).x) 28 (kc15 a.1 a.2.1.Epoch a.2.1.N ((c 4).ob) ((a.2.2.1 ++ [a1]).length) ((c 4).cap) G a.2.2.2.1.length H r a.2.2.2.2.length v)),(8,.osl ((c 4).ob) ((c 4).cap) 31 7 ((List.map S_api_Entry.row a.2.2.1) ++ ([[vI a1.Version.Epoch,vI a1.Version.N,.bool a1.Remove,vI a1.Errno,.string a1.Name,vI a1.Client,vI a1.Number]] : List (List Value))))]) [(1,hL 4 0 0),(2,hL 5 0 0),(3,{ act := .new (.row 1 7),key := some 11,spf := some (fun f => .slice (some (Addr.mk f.x 0 none)) ([a1].length) 1) }),(4,{ act := .app (some 11),key := some 8,spf := some (fun f => .slice (f.ob) ((a.2.2.1 ++ [a1]).length) (f.cap)) }),(6,hS 4)] (fun c => [qE ((b 0).x),qE ((b 1).x),qE ((.slice (some (Addr.mk (c 3).x 0 none)) 1 1) : Value),qE (some (Addr.mk (c 3).x 0 none)),⟨((by rw [show ([[vI a1.Version.Epoch,vI a1.Version.N,.bool a1.Remove,vI a1.Errno,.string a1.Name,vI a1.Client,vI a1.Number]] : List (List Value)) = List.map S_api_Entry.row [a1] from rfl]; exact mlen S_api_Entry.row [a1]) : [a1].length = ([[vI a1.Version.Epoch,vI a1.Version.N,.bool a1.Remove,vI a1.Errno,.string a1.Name,vI a1.Client,vI a1.Number]] : List (List Value)).length)⟩,qE aa,qE ab,⟨(mlen S_api_Entry.row a.2.2.1 : a.2.2.1.length = (List.map S_api_Entry.row a.2.2.1).length)⟩,⟨(appb bb (mlen S_api_Entry.row a.2.2.1).symm (by rw [show ([[vI a1.Version.Epoch,vI a1.Version.N,.bool a1.Remove,vI a1.Errno,.string a1.Name,vI a1.Client,vI a1.Number]] : List (List Value)) = List.map S_api_Entry.row [a1] from rfl]; exact (mlen S_api_Entry.row [a1]).symm) : ((List.map S_api_Entry.row a.2.2.1).length + ([[vI a1.Version.Epoch,vI a1.Version.N,.bool a1.Remove,vI a1.Errno,.string a1.Name,vI a1.Client,vI a1.Number]] : List (List Value)).length) * (64 + 1) ≤ 70368744177664)⟩,⟨((by rw [show ([[vI a1.Version.Epoch,vI a1.Version.N,.bool a1.Remove,vI a1.Errno,.string a1.Name,vI a1.Client,vI a1.Number]] : List (List Value)) = List.map S_api_Entry.row [a1] from (show ([[vI a1.Version.Epoch,vI a1.Version.N,.bool a1.Remove,vI a1.Errno,.string a1.Name,vI a1.Client,vI a1.Number]] : List (List Value)) = List.map S_api_Entry.row [a1] from rfl)]; exact all_one S_api_Entry.row _ (fun _ => rfl)) : ([[vI a1.Version.Epoch,vI a1.Version.N,.bool a1.Remove,vI a1.Errno,.string a1.Name,vI a1.Client,vI a1.Number]] : List (List Value)).flatten.all Value.oneCell' = true)⟩,⟨(slen (by simp) : ((.slice ((c 4).ob) (a.2.2.1.length + ([[vI a1.Version.Epoch,vI a1.Version.N,.bool a1.Remove,vI a1.Errno,.string a1.Name,vI a1.Client,vI a1.Number]] : List (List Value)).length) ((c 4).cap)) : Value) = .slice ((c 4).ob) ((a.2.2.1 ++ [a1]).length) ((c 4).cap))⟩,qE ((b 0).x),qE true]) (fun c => ?_)
      refine GS.ce 8 (fun rr : List (List Value) => .osl ((c 4).ob) ((c 4).cap) 31 7 rr) (show (List.map S_api_Entry.row a.2.2.1) ++ ([[vI a1.Version.Epoch,vI a1.Version.N,.bool a1.Remove,vI a1.Errno,.string a1.Name,vI a1.Client,vI a1.Number]] : List (List Value)) = List.map S_api_Entry.row (a.2.2.1 ++ [a1]) from (by rw [show List.map S_api_Entry.row a.2.2.1 = List.map S_api_Entry.row a.2.2.1 from rfl,show ([[vI a1.Version.Epoch,vI a1.Version.N,.bool a1.Remove,vI a1.Errno,.string a1.Name,vI a1.Client,vI a1.Number]] : List (List Value)) = List.map S_api_Entry.row [a1] from (show ([[vI a1.Version.Epoch,vI a1.Version.N,.bool a1.Remove,vI a1.Errno,.string a1.Name,vI a1.Client,vI a1.Number]] : List (List Value)) = List.map S_api_Entry.row [a1] from rfl)]; exact mapp S_api_Entry.row _ _)) ?_
      refine GS.seq ?_
      refine GS.dg [] (fun K => [(10,pA ((K 9).x) 0)]) [] (fun K => [(12,.cells ((K 9).x) 94 (kc17 a1.Client a1.Number a1.Errno a1.Version.Epoch a1.Version.N))]) [(1,hL 5 0 0),(3,hL 5 0 0),(5,hL 5 0 0),(7,hL 5 0 0),(9,hN 12),(10,hS 12)] (fun K => [qE ((b 1).x),qE ((b 1).x),qE ((b 1).x),qE ((b 1).x),qE ((K 9).x),qE true]) (fun K => ?_)
      refine GS.seq ?_
      refine GS.seq ?_
      refine bnd_elim hm (fun D bc hm => ?_)
      refine GS.eg [] [(11,vI D.1),(12,.bool D.2)] [] [] [(1,hL 4 0 0),(3,hL 5 0 0),(4,hC [9] (.tuple #[vI D.1,.bool D.2]))] [qE ((b 0).x),qE ((b 1).x),⟨(w_pglog_look_api_Last_int_ F G H a.2.2.2.1 a1.Client bc).ok (es := [some (o94 G H a.2.2.2.1)]) ⟨(.inl ⟨_,mm0,Cov.osl_rd⟩),trivial⟩⟩] ?_
      refine GS.seq ?_
      refine GS.ez [12] [(92,.bool D.2)] [] ?_
      refine jn_elim hm (fun bd a3 hm => ?_)
      refine GS.cu (ι := List S_api_Last × Option Addr × Nat) (fun ⟨z,s,u⟩ => bd z = some y) [10,11,92] (fun ⟨z,s,u⟩ => []) [12] (fun ⟨z,s,u⟩ => [(4,.cells ((b 0).x) 28 (kc15 a.1 a.2.1.Epoch a.2.1.N ((c 4).ob) ((a.2.2.1 ++ [a1]).length) ((c 4).cap) s z.length u r a.2.2.2.2.length v)),(9,o94 s u z)]) ?_ ?_
      rotate_left
      ·intro a4
       refine GS.cd D.2 (fun ap => ?_) (fun ap => ?_)
       ·replace hm := br_t ap hm
        refine grd_elim hm (fun aq hm => ?_)
        refine GS.eg [10,11,92] [] [12] [(9,.osl G H 94 5 ((List.map S_api_Last.row a.2.2.2.1).set (Int.toNat D.1) [vI a1.Client,vI a1.Number,vI a1.Errno,vI a1.Version.Epoch,vI a1.Version.N]))] [(1,hL 4 0 0),(3,hL 12 0 0),(4,hA (.idx 9 (Int.toNat D.1))),(5,hK (.store (Int.toNat D.1) 0 [vI ((a.2.2.2.1.getD (Int.toNat D.1) dS_api_Last).Client),vI ((a.2.2.2.1.getD (Int.toNat D.1) dS_api_Last).Number),vI ((a.2.2.2.1.getD (Int.toNat D.1) dS_api_Last).Errno),vI (((a.2.2.2.1.getD (Int.toNat D.1) dS_api_Last).Version).Epoch),vI (((a.2.2.2.1.getD (Int.toNat D.1) dS_api_Last).Version).N)]) 9)] [qE ((b 0).x),qE ((K 9).x),qE G,⟨(mlen S_api_Last.row a.2.2.2.1 : a.2.2.2.1.length = (List.map S_api_Last.row a.2.2.2.1).length)⟩,⟨aq.eq⟩,⟨aq.2⟩,qE (blk G),qE (offs G + (Int.toNat D.1) * 5),⟨(map_at S_api_Last.row dS_api_Last aq.2 : (List.map S_api_Last.row a.2.2.2.1)[(Int.toNat D.1)]? = some [vI ((a.2.2.2.1.getD (Int.toNat D.1) dS_api_Last).Client),vI ((a.2.2.2.1.getD (Int.toNat D.1) dS_api_Last).Number),vI ((a.2.2.2.1.getD (Int.toNat D.1) dS_api_Last).Errno),vI (((a.2.2.2.1.getD (Int.toNat D.1) dS_api_Last).Version).Epoch),vI (((a.2.2.2.1.getD (Int.toNat D.1) dS_api_Last).Version).N)])⟩,qE true] ?_
        refine GS.ce 9 (fun rr : List (List Value) => .osl G H 94 5 rr) (show (List.map S_api_Last.row a.2.2.2.1).set (Int.toNat D.1) [vI a1.Client,vI a1.Number,vI a1.Errno,vI a1.Version.Epoch,vI a1.Version.N] = List.map S_api_Last.row (a.2.2.2.1.set (Int.toNat D.1) (S_api_Last.mk a1.Client a1.Number a1.Errno a1.Version)) from mset S_api_Last.row a.2.2.2.1 (Int.toNat D.1) (S_api_Last.mk a1.Client a1.Number a1.Errno a1.Version)) ?_
        refine GS.ce 4 (fun ee : Ent => ee) (show ((.cells ((b 0).x) 28 (kc15 a.1 a.2.1.Epoch a.2.1.N ((c 4).ob) ((a.2.2.1 ++ [a1]).length) ((c 4).cap) G a.2.2.2.1.length H r a.2.2.2.2.length v)) : Ent) = .cells ((b 0).x) 28 (kc15 a.1 a.2.1.Epoch a.2.1.N ((c 4).ob) ((a.2.2.1 ++ [a1]).length) ((c 4).cap) G ((a.2.2.2.1.set (Int.toNat D.1) (S_api_Last.mk a1.Client a1.Number a1.Errno a1.Version)).length) H r a.2.2.2.2.length v) from by simp []) ?_
        exact GS.rs (a4 ⟨(a.2.2.2.1.set (Int.toNat D.1) (S_api_Last.mk a1.Client a1.Number a1.Errno a1.Version)),G,H⟩ hm)
       ·replace hm := br_f ap hm
        refine grd_elim hm (fun be hm => ?_)
        refine grd_elim hm (fun bf hm => ?_)
        refine grd_elim hm (fun bg hm => ?_)
        refine grd_elim hm (fun bh hm => ?_)
        refine GS.open_ ?_
        refine GR.du 5 [10,11,92] (fun L => [(99,.slice G a.2.2.2.1.length H),(100,vI D.1),(102,.slice (some (Addr.mk (L 4).x 0 none)) ([(S_api_Last.mk a1.Client a1.Number a1.Errno a1.Version)].length) 1)]) [12] (fun L => [(13,.osl (some (Addr.mk (L 4).x 0 none)) 1 94 5 ([[vI a1.Client,vI a1.Number,vI a1.Errno,vI a1.Version.Epoch,vI a1.Version.N]] : List (List Value)))]) [(1,hL 4 0 0),(3,hL 12 0 0),(4,{ act := .new (.row 1 5),key := some 13,spf := some (fun f => .slice (some (Addr.mk f.x 0 none)) ([(S_api_Last.mk a1.Client a1.Number a1.Errno a1.Version)].length) 1) })] (fun L => [qE ((b 0).x),qE ((K 9).x),qE ((.slice (some (Addr.mk (L 4).x 0 none)) 1 1) : Value)]) (fun L => ?_)
        refine GR.ce 13 (fun rr : List (List Value) => .osl (some (Addr.mk (L 4).x 0 none)) 1 94 5 rr) (show ([[vI a1.Client,vI a1.Number,vI a1.Errno,vI a1.Version.Epoch,vI a1.Version.N]] : List (List Value)) = List.map S_api_Last.row [(S_api_Last.mk a1.Client a1.Number a1.Errno a1.Version)] from rfl) ?_
        refine GR.cg (ins54_ok G H a.2.2.2.1 D.1 (some (Addr.mk (L 4).x 0 none)) 1 [(S_api_Last.mk a1.Client a1.Number a1.Errno a1.Version)] be bf bg bh) [9,13] [14] [99,100,102] [] trivial ?_
        rintro ⟨Y,Z⟩
        refine GR.eu 2 [103] [] [] [(4,.cells ((b 0).x) 28 (kc15 a.1 a.2.1.Epoch a.2.1.N ((c 4).ob) ((a.2.2.1 ++ [a1]).length) ((c 4).cap) Y ((a.2.2.2.1.take (Int.toNat D.1) ++ ([(S_api_Last.mk a1.Client a1.Number a1.Errno a1.Version)] ++ a.2.2.2.1.drop (Int.toNat D.1))).length) Z r a.2.2.2.2.length v))] [(7,hS 4)] [qE ((b 0).x),qE true] ?_
        refine GR.dm ?_
        exact GS.rk [(4,4),(5,5),(6,6),(8,8),(9,14),(10,10)] (a4 ⟨(a.2.2.2.1.take (Int.toNat D.1) ++ ([(S_api_Last.mk a1.Client a1.Number a1.Errno a1.Version)] ++ a.2.2.2.1.drop (Int.toNat D.1))),Y,Z⟩ hm)
      ·rintro ⟨z,s,u⟩ hm
       replace hm := (a3 _).symm.trans hm
       try dsimp only at hm
       refine GS.seq ?_
       refine GS.seq ?_
       refine GS.eg [] [(107,.bool (a1.Errno != 0))] [] [] [(1,hL 5 0 0)] [qE ((b 1).x)] ?_
       refine GS.cd (a1.Errno != 0) (fun ar => ?_) (fun ar => ?_)
       ·replace hm := br_t ar hm
        refine GS.seq ?_
        refine GS.eg [2,3,4,107] [(7,vI 0)] [4,5] [(6,.cells ((b 2).x) 28 (kc15 a.1 a.2.1.Epoch a.2.1.N ((c 4).ob) ((a.2.2.1 ++ [a1]).length) ((c 4).cap) s z.length u r a.2.2.2.2.length v))] [(0,hL 4 0 0),(1,hS 6)] [qE ((b 0).x),qE ((b 2).x),qE true] ?_
        have hy := Option.some.inj hm
        subst hy
        exact GS.rw [6,0] [.agg ((kc15 a.1 a.2.1.Epoch a.2.1.N ((c 4).ob) ((a.2.2.1 ++ [a1]).length) ((c 4).cap) s z.length u r a.2.2.2.2.length v)).toArray,vI 0] [qE ((b 2).x)] Tryz.func33 ⟨(c 4).ob,(c 4).cap,s,u,r,v⟩ [8,9,10]
       ·replace hm := br_f ar hm
        refine GS.skip ?_
        refine GS.seq ?_
        refine bnd_elim hm (fun B bi hm => ?_)
        refine GS.eg [107] [(13,vI B.1),(14,.bool B.2)] [] [] [(1,hL 4 0 0),(3,hL 5 0 0),(4,hC [10] (.tuple #[vI B.1,.bool B.2]))] [qE ((b 0).x),qE ((b 1).x),⟨(w_pglog_look_api_Item_string_ F r v a.2.2.2.2 a1.Name bi).ok (es := [some (o91 r v a.2.2.2.2)]) ⟨(.inl ⟨_,mm0,Cov.osl_rd⟩),trivial⟩⟩] ?_
        refine GS.seq ?_
        refine GS.dg [2] (fun J => [(15,pA ((J 6).x) 0)]) [] (fun J => [(15,.cells ((J 6).x) 91 (kc33 a1.Name a1.Version.Epoch a1.Version.N a2))]) [(1,hL 5 0 0),(3,hL 5 0 0),(6,hN 15),(7,hS 15)] (fun J => [qE ((b 1).x),qE ((b 1).x),qE ((J 6).x),qE true]) (fun J => ?_)
        refine GS.seq ?_
        refine GS.block ?_
        refine GS.seq ?_
        refine jn_elim hm (fun bj a5 hm => ?_)
        refine GS.cu (ι := Bool) (fun (P : Bool) => bj P = some y) [] (fun (P : Bool) => [(130,.bool P)]) [] (fun (P : Bool) => []) ?_ ?_
        rotate_left
        ·intro a6
         refine br_elim hm (fun au hm => ?_) (fun au hm => ?_)
         ·skip
          refine GS.eg [] [(130,.bool B.2)] [] [] [(1,hL 5 0 0),(2,hP (.bool true))] [qE ((b 1).x),⟨bool_eq au⟩] ?_
          exact GS.rs (a6 B.2 hm)
         ·skip
          refine GS.eg [] [(130,.bool false)] [] [] [(1,hL 5 0 0),(2,hP (.bool false))] [qE ((b 1).x),⟨bool_eq au⟩] ?_
          exact GS.rs (a6 false hm)
        ·rintro P hm
         replace hm := (a5 _).symm.trans hm
         try dsimp only at hm
         refine GS.cd P (fun av => ?_) (fun av => ?_)
         ·replace hm := br_t av hm
          refine grd_elim hm (fun bk hm => ?_)
          refine bnd_elim hm (fun ac bl hm => ?_)
          refine GS.kn 10 (o91 r v a.2.2.2.2) (fun _ => osl_len) (fun bm => ?_)
          refine GS.open_ ?_
          refine GR.eu 5 [4,13,14,15,130] [(137,.slice r a.2.2.2.2.length v),(138,vI B.1),(140,vI (B.1 + 1))] [5,15] [] [(1,hL 4 0 0),(4,hP (vI (B.1 + 1)))] [qE ((b 0).x),⟨(I64.w bk : oW (B.1 + 1))⟩] ?_
          refine GR.cg (w_slices_Delete___api_Item_api_Item_ F r v a.2.2.2.2 B.1 (B.1 + 1) bm bl) [10] [16] [137,138,140] [] trivial ?_
          rintro ⟨Q,R⟩
          refine GR.eu 2 [141] [] [] [(4,.cells ((b 0).x) 28 (kc15 a.1 a.2.1.Epoch a.2.1.N ((c 4).ob) ((a.2.2.1 ++ [a1]).length) ((c 4).cap) s z.length u Q ac.length R))] [(7,hS 4)] [qE ((b 0).x),qE true] ?_
          refine GR.dm ?_
          refine GS.inBlock ?_
          refine GS.seq ?_
          refine GS.eg [3] [(7,vI 0)] [4] [(6,.cells ((b 2).x) 28 (kc15 a.1 a.2.1.Epoch a.2.1.N ((c 4).ob) ((a.2.2.1 ++ [a1]).length) ((c 4).cap) s z.length u Q ac.length R))] [(0,hL 4 0 0),(1,hS 6)] [qE ((b 0).x),qE ((b 2).x),qE true] ?_
          have hy := Option.some.inj hm
          subst hy
          exact GS.rw [6,0] [.agg ((kc15 a.1 a.2.1.Epoch a.2.1.N ((c 4).ob) ((a.2.2.1 ++ [a1]).length) ((c 4).cap) s z.length u Q ac.length R)).toArray,vI 0] [qE ((b 2).x)] Tryz.func33 ⟨(c 4).ob,(c 4).cap,s,u,Q,R⟩ [8,9,16]
         ·replace hm := br_f av hm
          refine GS.seq ?_
          refine GS.eg [4,130] [(143,.bool a1.Remove)] [5] [] [(1,hL 5 0 0)] [qE ((b 1).x)] ?_
          refine GS.cd a1.Remove (fun aw => ?_) (fun aw => ?_)
          ·replace hm := br_t aw hm
           refine GS.skip ?_
           refine GS.inBlock ?_
           refine GS.seq ?_
           refine GS.eg [3,13,14,15,143] [(7,vI 0)] [4,15] [(6,.cells ((b 2).x) 28 (kc15 a.1 a.2.1.Epoch a.2.1.N ((c 4).ob) ((a.2.2.1 ++ [a1]).length) ((c 4).cap) s z.length u r a.2.2.2.2.length v))] [(0,hL 4 0 0),(1,hS 6)] [qE ((b 0).x),qE ((b 2).x),qE true] ?_
           have hy := Option.some.inj hm
           subst hy
           exact GS.rw [6,0] [.agg ((kc15 a.1 a.2.1.Epoch a.2.1.N ((c 4).ob) ((a.2.2.1 ++ [a1]).length) ((c 4).cap) s z.length u r a.2.2.2.2.length v)).toArray,vI 0] [qE ((b 2).x)] Tryz.func33 ⟨(c 4).ob,(c 4).cap,s,u,r,v⟩ [8,9,10]
          ·replace hm := br_f aw hm
           refine GS.seq ?_
           refine GS.ez [14,143] [(146,.bool B.2)] [] ?_
           refine GS.cd B.2 (fun ax => ?_) (fun ax => ?_)
           ·replace hm := br_t ax hm
            refine grd_elim hm (fun ay hm => ?_)
            refine GS.eg [13,15,146] [] [15] [(10,.osl r v 91 4 ((List.map S_api_Item.row a.2.2.2.2).set (Int.toNat B.1) [.string a1.Name,vI a1.Version.Epoch,vI a1.Version.N,.int .u32 a2]))] [(1,hL 4 0 0),(3,hL 15 0 0),(4,hA (.idx 10 (Int.toNat B.1))),(5,hK (.store (Int.toNat B.1) 0 [.string ((a.2.2.2.2.getD (Int.toNat B.1) dS_api_Item).Name),vI (((a.2.2.2.2.getD (Int.toNat B.1) dS_api_Item).Version).Epoch),vI (((a.2.2.2.2.getD (Int.toNat B.1) dS_api_Item).Version).N),.int .u32 ((a.2.2.2.2.getD (Int.toNat B.1) dS_api_Item).Crc)]) 10)] [qE ((b 0).x),qE ((J 6).x),qE r,⟨(mlen S_api_Item.row a.2.2.2.2 : a.2.2.2.2.length = (List.map S_api_Item.row a.2.2.2.2).length)⟩,⟨ay.eq⟩,⟨ay.2⟩,qE (blk r),qE (offs r + (Int.toNat B.1) * 4),⟨(map_at S_api_Item.row dS_api_Item ay.2 : (List.map S_api_Item.row a.2.2.2.2)[(Int.toNat B.1)]? = some [.string ((a.2.2.2.2.getD (Int.toNat B.1) dS_api_Item).Name),vI (((a.2.2.2.2.getD (Int.toNat B.1) dS_api_Item).Version).Epoch),vI (((a.2.2.2.2.getD (Int.toNat B.1) dS_api_Item).Version).N),.int .u32 ((a.2.2.2.2.getD (Int.toNat B.1) dS_api_Item).Crc)])⟩,qE true] ?_
            refine GS.ce 10 (fun rr : List (List Value) => .osl r v 91 4 rr) (show (List.map S_api_Item.row a.2.2.2.2).set (Int.toNat B.1) [.string a1.Name,vI a1.Version.Epoch,vI a1.Version.N,.int .u32 a2] = List.map S_api_Item.row (a.2.2.2.2.set (Int.toNat B.1) (S_api_Item.mk a1.Name (S_api_Version.mk a1.Version.Epoch a1.Version.N) a2)) from mset S_api_Item.row a.2.2.2.2 (Int.toNat B.1) (S_api_Item.mk a1.Name (S_api_Version.mk a1.Version.Epoch a1.Version.N) a2)) ?_
            refine GS.inBlock ?_
            refine GS.seq ?_
            refine GS.ce 4 (fun ehole : Ent => ehole) (show ((.cells ((b 0).x) 28 (kc15 a.1 a.2.1.Epoch a.2.1.N ((c 4).ob) ((a.2.2.1 ++ [a1]).length) ((c 4).cap) s z.length u r a.2.2.2.2.length v)) : Ent) = .cells ((b 0).x) 28 (kc15 a.1 a.2.1.Epoch a.2.1.N ((c 4).ob) ((a.2.2.1 ++ [a1]).length) ((c 4).cap) s z.length u r ((a.2.2.2.2.set (Int.toNat B.1) (S_api_Item.mk a1.Name (S_api_Version.mk a1.Version.Epoch a1.Version.N) a2)).length) v) from (by simp [])) ?_
            refine GS.eg [3] [(7,vI 0)] [4] [(6,.cells ((b 2).x) 28 (kc15 a.1 a.2.1.Epoch a.2.1.N ((c 4).ob) ((a.2.2.1 ++ [a1]).length) ((c 4).cap) s z.length u r ((a.2.2.2.2.set (Int.toNat B.1) (S_api_Item.mk a1.Name (S_api_Version.mk a1.Version.Epoch a1.Version.N) a2)).length) v))] [(0,hL 4 0 0),(1,hS 6)] [qE ((b 0).x),qE ((b 2).x),qE true] ?_
            have hy := Option.some.inj hm
            subst hy
            exact GS.rw [6,0] [.agg ((kc15 a.1 a.2.1.Epoch a.2.1.N ((c 4).ob) ((a.2.2.1 ++ [a1]).length) ((c 4).cap) s z.length u r ((a.2.2.2.2.set (Int.toNat B.1) (S_api_Item.mk a1.Name (S_api_Version.mk a1.Version.Epoch a1.Version.N) a2)).length) v)).toArray,vI 0] [qE ((b 2).x)] Tryz.func33 ⟨(c 4).ob,(c 4).cap,s,u,r,v⟩ [8,9,10]
           ·replace hm := br_f ax hm
            refine grd_elim hm (fun bn hm => ?_)
            refine grd_elim hm (fun bo hm => ?_)
            refine grd_elim hm (fun bp hm => ?_)
            refine grd_elim hm (fun bq hm => ?_)
            refine GS.open_ ?_
            refine GR.du 5 [13,15,146] (fun O => [(124,.slice r a.2.2.2.2.length v),(125,vI B.1),(127,.slice (some (Addr.mk (O 4).x 0 none)) ([(S_api_Item.mk a1.Name (S_api_Version.mk a1.Version.Epoch a1.Version.N) a2)].length) 1)]) [15] (fun O => [(16,.osl (some (Addr.mk (O 4).x 0 none)) 1 91 4 ([[.string a1.Name,vI a1.Version.Epoch,vI a1.Version.N,.int .u32 a2]] : List (List Value)))]) [(1,hL 4 0 0),(3,hL 15 0 0),(4,{ act := .new (.row 1 4),key := some 16,spf := some (fun f => .slice (some (Addr.mk f.x 0 none)) ([(S_api_Item.mk a1.Name (S_api_Version.mk a1.Version.Epoch a1.Version.N) a2)].length) 1) })] (fun O => [qE ((b 0).x),qE ((J 6).x),qE ((.slice (some (Addr.mk (O 4).x 0 none)) 1 1) : Value)]) (fun O => ?_)
            refine GR.ce 16 (fun rr : List (List Value) => .osl (some (Addr.mk (O 4).x 0 none)) 1 91 4 rr) (show ([[.string a1.Name,vI a1.Version.Epoch,vI a1.Version.N,.int .u32 a2]] : List (List Value)) = List.map S_api_Item.row [(S_api_Item.mk a1.Name (S_api_Version.mk a1.Version.Epoch a1.Version.N) a2)] from rfl) ?_
            refine GR.cg (ins58_ok r v a.2.2.2.2 B.1 (some (Addr.mk (O 4).x 0 none)) 1 [(S_api_Item.mk a1.Name (S_api_Version.mk a1.Version.Epoch a1.Version.N) a2)] bn bo bp bq) [10,16] [17] [124,125,127] [] trivial ?_
            rintro ⟨T,U⟩
            refine GR.eu 2 [128] [] [] [(4,.cells ((b 0).x) 28 (kc15 a.1 a.2.1.Epoch a.2.1.N ((c 4).ob) ((a.2.2.1 ++ [a1]).length) ((c 4).cap) s z.length u T ((a.2.2.2.2.take (Int.toNat B.1) ++ ([(S_api_Item.mk a1.Name (S_api_Version.mk a1.Version.Epoch a1.Version.N) a2)] ++ a.2.2.2.2.drop (Int.toNat B.1))).length) U))] [(7,hS 4)] [qE ((b 0).x),qE true] ?_
            refine GR.dm ?_
            refine GS.inBlock ?_
            refine GS.seq ?_
            refine GS.eg [3] [(7,vI 0)] [4] [(6,.cells ((b 2).x) 28 (kc15 a.1 a.2.1.Epoch a.2.1.N ((c 4).ob) ((a.2.2.1 ++ [a1]).length) ((c 4).cap) s z.length u T ((a.2.2.2.2.take (Int.toNat B.1) ++ ([(S_api_Item.mk a1.Name (S_api_Version.mk a1.Version.Epoch a1.Version.N) a2)] ++ a.2.2.2.2.drop (Int.toNat B.1))).length) U))] [(0,hL 4 0 0),(1,hS 6)] [qE ((b 0).x),qE ((b 2).x),qE true] ?_
            have hy := Option.some.inj hm
            subst hy
            exact GS.rw [6,0] [.agg ((kc15 a.1 a.2.1.Epoch a.2.1.N ((c 4).ob) ((a.2.2.1 ++ [a1]).length) ((c 4).cap) s z.length u T ((a.2.2.2.2.take (Int.toNat B.1) ++ ([(S_api_Item.mk a1.Name (S_api_Version.mk a1.Version.Epoch a1.Version.N) a2)] ++ a.2.2.2.2.drop (Int.toNat B.1))).length) U)).toArray,vI 0] [qE ((b 2).x)] Tryz.func33 ⟨(c 4).ob,(c 4).cap,s,u,T,U⟩ [8,9,17]

end Go.Proofs.YtjnbkhnebmlilaaGreat
