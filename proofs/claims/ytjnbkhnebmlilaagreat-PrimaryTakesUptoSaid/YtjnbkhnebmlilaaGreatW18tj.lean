/-
  CHAPTER 18t: the functions do what their models say (10).
-/
import Derived.Test.YtjnbkhnebmlilaaGreatE18t
import Derived.Test.YtjnbkhnebmlilaaGreatW18ta
import Derived.Test.YtjnbkhnebmlilaaGreatW18th
import Derived.Test.YtjnbkhnebmlilaaGreatW18ti
set_option linter.unusedVariables false
set_option linter.unusedSimpArgs false
set_option maxRecDepth 100000
set_option maxHeartbeats 8000000
namespace Go.Proofs.YtjnbkhnebmlilaaGreat
open Go Go.RowKit Sx

theorem w_tholeref13_Copy (F : Nat) (l : Int) (e : S_api_Version) (n : Option Addr) (p : Nat) (c : List S_api_Entry) (g : Option Addr) (o : Nat) (a : List S_api_Last) (d : Option Addr) (k : Nat) (b : List S_api_Item) {y : Int × S_api_Version × List S_api_Entry × List S_api_Last × List S_api_Item} (hm : m_tholeref13_Copy F l e c a b = some y) : CallG Tryz.prog 59 #[.agg ((kc0 l e.Epoch e.N n c.length p g a.length o d b.length k)).toArray] (X := Option Addr × Nat × Option Addr × Nat × Option Addr × Nat) (fun ⟨x0,x1,x2,x3,x4,x5⟩ => .agg ((kc0 y.1 y.2.1.Epoch y.2.1.N x0 y.2.2.1.length x1 x2 y.2.2.2.1.length x3 x4 y.2.2.2.2.length x5)).toArray) [] [r31 n c,r94 g a,r91 d b] (fun ⟨x0,x1,x2,x3,x4,x5⟩ => [o31 x0 x1 y.2.2.1,o94 x2 x3 y.2.2.2.1,o91 x4 x5 y.2.2.2.2]) := by
  intro w hg
  rw [m_tholeref13_Copy] at hm
  refine GS.start (S := mayT [] [r31 n c,r94 g a,r91 d b]) (mem := [(1,r31 n c),(2,r94 g a),(3,r91 d b)]) Tryz.func59 rfl Tryz.ntmps59 (Nat.le_of_ble_eq_true rfl) (hg.start rfl) ?_
  refine GS.conv (env' := [(0,.agg ((kc0 l e.Epoch e.N n c.length p g a.length o d b.length k)).toArray)]) rfl rfl ?_
  refine GS.seq ?_
  refine GS.tz (fun i => [(1,pA ((i 0).x) 0),(2,pA ((i 1).x) 0)]) (fun i => [(1,r31 n c),(2,r94 g a),(3,r91 d b),(4,.cells ((i 0).x) 28 (kc0 l e.Epoch e.N n c.length p g a.length o d b.length k)),(5,.cells ((i 1).x) 28 (kc6))]) [(0,{ act := .new .var,key := some 4 }),(1,{ act := .new .var,key := some 5 })] ?_
  intro i
  refine GS.seq ?_
  refine grd_elim hm (fun g3 hm => ?_)
  refine GS.tg (fun h => [(1,pA ((i 0).x) 0),(2,pA ((i 1).x) 0)]) (fun h => [(2,r94 g a),(3,r91 d b),(4,.cells ((i 0).x) 28 (kc0 l e.Epoch e.N ((h 3).ob) ((([] : List S_api_Entry) ++ c).length) ((h 3).cap) g a.length o d b.length k)),(5,.cells ((i 1).x) 28 (kc6)),(6,.osl ((h 3).ob) ((h 3).cap) 31 7 (([] : List (List Value)) ++ (List.map S_api_Entry.row c)))]) [(0,{ act := .new (.row 0 7),key := some 6,spf := some (fun f => .slice (some (Addr.mk f.x 0 none)) ((([] : List S_api_Entry) : List S_api_Entry).length) 0) }),(2,{ act := .load 4 0 0 [] }),(3,{ act := .app (some 1),key := some 6,spf := some (fun f => .slice (f.ob) ((([] : List S_api_Entry) ++ c).length) (f.cap)) }),(5,{ act := .store 0 0 [],key := some 4 })] (fun h => [((.slice (some (Addr.mk (h 0).x 0 none)) 0 0) : Value) = .slice (some (Addr.mk (h 0).x 0 none)) ((([] : List S_api_Entry) : List S_api_Entry).length) 0,(i 0).x = (i 0).x,n = n,c.length = (List.map S_api_Entry.row c).length,(some (Addr.mk (h 0).x 0 none)) = (some (Addr.mk (h 0).x 0 none)),0 = 0,(([] : List S_api_Entry) : List S_api_Entry).length = ([] : List (List Value)).length,(([] : List (List Value)).length + (List.map S_api_Entry.row c).length) * (64 + 1) ≤ 70368744177664,(List.map S_api_Entry.row c).flatten.all Value.oneCell' = true,((.slice ((h 3).ob) (((([] : List S_api_Entry) : List S_api_Entry).length) + (List.map S_api_Entry.row c).length) ((h 3).cap)) : Value) = .slice ((h 3).ob) ((([] : List S_api_Entry) ++ c).length) ((h 3).cap),(i 0).x = (i 0).x,oC (.slice ((h 3).ob) ((([] : List S_api_Entry) ++ c).length) ((h 3).cap))]) (fun h => ⟨rfl,rfl,rfl,mlen S_api_Entry.row c,rfl,rfl,(by rw [show ([] : List (List Value)) = List.map S_api_Entry.row ([] : List S_api_Entry) from rfl]; exact mlen S_api_Entry.row ([] : List S_api_Entry)),appb g3 (by rw [show ([] : List (List Value)) = List.map S_api_Entry.row ([] : List S_api_Entry) from rfl]; exact (mlen S_api_Entry.row ([] : List S_api_Entry)).symm) (mlen S_api_Entry.row c).symm,(by rw [show List.map S_api_Entry.row c = List.map S_api_Entry.row c from rfl]; exact all_one S_api_Entry.row _ (fun _ => rfl)),slen (by simp),rfl,rfl,trivial⟩) ?_
  intro h
  refine GS.conv (mem' := [(2,r94 g a),(3,r91 d b),(4,.cells ((i 0).x) 28 (kc0 l e.Epoch e.N ((h 3).ob) ((([] : List S_api_Entry) ++ c).length) ((h 3).cap) g a.length o d b.length k)),(5,.cells ((i 1).x) 28 (kc6)),(6,o31 ((h 3).ob) ((h 3).cap) (([] : List S_api_Entry) ++ c))]) rfl (congrArg (fun rr : List (List Value) => ([(2,r94 g a),(3,r91 d b),(4,.cells ((i 0).x) 28 (kc0 l e.Epoch e.N ((h 3).ob) ((([] : List S_api_Entry) ++ c).length) ((h 3).cap) g a.length o d b.length k)),(5,.cells ((i 1).x) 28 (kc6)),(6,.osl ((h 3).ob) ((h 3).cap) 31 7 rr)] : List (Nat × Ent))) (show ([] : List (List Value)) ++ (List.map S_api_Entry.row c) = List.map S_api_Entry.row (([] : List S_api_Entry) ++ c) from (by rw [show ([] : List (List Value)) = List.map S_api_Entry.row ([] : List S_api_Entry) from rfl,show List.map S_api_Entry.row c = List.map S_api_Entry.row c from rfl]; exact mapp S_api_Entry.row _ _))) ?_
  refine GS.seq ?_
  refine grd_elim hm (fun g5 hm => ?_)
  refine GS.tg (fun j => [(1,pA ((i 0).x) 0),(2,pA ((i 1).x) 0)]) (fun j => [(3,r91 d b),(4,.cells ((i 0).x) 28 (kc0 l e.Epoch e.N ((h 3).ob) ((([] : List S_api_Entry) ++ c).length) ((h 3).cap) ((j 3).ob) ((([] : List S_api_Last) ++ a).length) ((j 3).cap) d b.length k)),(5,.cells ((i 1).x) 28 (kc6)),(6,o31 ((h 3).ob) ((h 3).cap) (([] : List S_api_Entry) ++ c)),(7,.osl ((j 3).ob) ((j 3).cap) 94 5 (([] : List (List Value)) ++ (List.map S_api_Last.row a)))]) [(0,{ act := .new (.row 0 5),key := some 7,spf := some (fun f => .slice (some (Addr.mk f.x 0 none)) ((([] : List S_api_Last) : List S_api_Last).length) 0) }),(2,{ act := .load 4 0 0 [] }),(3,{ act := .app (some 2),key := some 7,spf := some (fun f => .slice (f.ob) ((([] : List S_api_Last) ++ a).length) (f.cap)) }),(5,{ act := .store 0 0 [],key := some 4 })] (fun j => [((.slice (some (Addr.mk (j 0).x 0 none)) 0 0) : Value) = .slice (some (Addr.mk (j 0).x 0 none)) ((([] : List S_api_Last) : List S_api_Last).length) 0,(i 0).x = (i 0).x,g = g,a.length = (List.map S_api_Last.row a).length,(some (Addr.mk (j 0).x 0 none)) = (some (Addr.mk (j 0).x 0 none)),0 = 0,(([] : List S_api_Last) : List S_api_Last).length = ([] : List (List Value)).length,(([] : List (List Value)).length + (List.map S_api_Last.row a).length) * (40 + 1) ≤ 70368744177664,(List.map S_api_Last.row a).flatten.all Value.oneCell' = true,((.slice ((j 3).ob) (((([] : List S_api_Last) : List S_api_Last).length) + (List.map S_api_Last.row a).length) ((j 3).cap)) : Value) = .slice ((j 3).ob) ((([] : List S_api_Last) ++ a).length) ((j 3).cap),(i 0).x = (i 0).x,oC (.slice ((j 3).ob) ((([] : List S_api_Last) ++ a).length) ((j 3).cap))]) (fun j => ⟨rfl,rfl,rfl,mlen S_api_Last.row a,rfl,rfl,(by rw [show ([] : List (List Value)) = List.map S_api_Last.row ([] : List S_api_Last) from rfl]; exact mlen S_api_Last.row ([] : List S_api_Last)),appb g5 (by rw [show ([] : List (List Value)) = List.map S_api_Last.row ([] : List S_api_Last) from rfl]; exact (mlen S_api_Last.row ([] : List S_api_Last)).symm) (mlen S_api_Last.row a).symm,(by rw [show List.map S_api_Last.row a = List.map S_api_Last.row a from rfl]; exact all_one S_api_Last.row _ (fun _ => rfl)),slen (by simp),rfl,rfl,trivial⟩) ?_
  intro j
  refine GS.conv (mem' := [(3,r91 d b),(4,.cells ((i 0).x) 28 (kc0 l e.Epoch e.N ((h 3).ob) ((([] : List S_api_Entry) ++ c).length) ((h 3).cap) ((j 3).ob) ((([] : List S_api_Last) ++ a).length) ((j 3).cap) d b.length k)),(5,.cells ((i 1).x) 28 (kc6)),(6,o31 ((h 3).ob) ((h 3).cap) (([] : List S_api_Entry) ++ c)),(7,o94 ((j 3).ob) ((j 3).cap) (([] : List S_api_Last) ++ a))]) rfl (congrArg (fun rr : List (List Value) => ([(3,r91 d b),(4,.cells ((i 0).x) 28 (kc0 l e.Epoch e.N ((h 3).ob) ((([] : List S_api_Entry) ++ c).length) ((h 3).cap) ((j 3).ob) ((([] : List S_api_Last) ++ a).length) ((j 3).cap) d b.length k)),(5,.cells ((i 1).x) 28 (kc6)),(6,o31 ((h 3).ob) ((h 3).cap) (([] : List S_api_Entry) ++ c)),(7,.osl ((j 3).ob) ((j 3).cap) 94 5 rr)] : List (Nat × Ent))) (show ([] : List (List Value)) ++ (List.map S_api_Last.row a) = List.map S_api_Last.row (([] : List S_api_Last) ++ a) from (by rw [show ([] : List (List Value)) = List.map S_api_Last.row ([] : List S_api_Last) from rfl,show List.map S_api_Last.row a = List.map S_api_Last.row a from rfl]; exact mapp S_api_Last.row _ _))) ?_
  refine GS.seq ?_
  refine grd_elim hm (fun g7 hm => ?_)
  refine GS.tg (fun m => [(1,pA ((i 0).x) 0),(2,pA ((i 1).x) 0)]) (fun m => [(4,.cells ((i 0).x) 28 (kc0 l e.Epoch e.N ((h 3).ob) ((([] : List S_api_Entry) ++ c).length) ((h 3).cap) ((j 3).ob) ((([] : List S_api_Last) ++ a).length) ((j 3).cap) ((m 3).ob) ((([] : List S_api_Item) ++ b).length) ((m 3).cap))),(5,.cells ((i 1).x) 28 (kc6)),(6,o31 ((h 3).ob) ((h 3).cap) (([] : List S_api_Entry) ++ c)),(7,o94 ((j 3).ob) ((j 3).cap) (([] : List S_api_Last) ++ a)),(8,.osl ((m 3).ob) ((m 3).cap) 91 4 (([] : List (List Value)) ++ (List.map S_api_Item.row b)))]) [(0,{ act := .new (.row 0 4),key := some 8,spf := some (fun f => .slice (some (Addr.mk f.x 0 none)) ((([] : List S_api_Item) : List S_api_Item).length) 0) }),(2,{ act := .load 4 0 0 [] }),(3,{ act := .app (some 3),key := some 8,spf := some (fun f => .slice (f.ob) ((([] : List S_api_Item) ++ b).length) (f.cap)) }),(5,{ act := .store 0 0 [],key := some 4 })] (fun m => [((.slice (some (Addr.mk (m 0).x 0 none)) 0 0) : Value) = .slice (some (Addr.mk (m 0).x 0 none)) ((([] : List S_api_Item) : List S_api_Item).length) 0,(i 0).x = (i 0).x,d = d,b.length = (List.map S_api_Item.row b).length,(some (Addr.mk (m 0).x 0 none)) = (some (Addr.mk (m 0).x 0 none)),0 = 0,(([] : List S_api_Item) : List S_api_Item).length = ([] : List (List Value)).length,(([] : List (List Value)).length + (List.map S_api_Item.row b).length) * (40 + 1) ≤ 70368744177664,(List.map S_api_Item.row b).flatten.all Value.oneCell' = true,((.slice ((m 3).ob) (((([] : List S_api_Item) : List S_api_Item).length) + (List.map S_api_Item.row b).length) ((m 3).cap)) : Value) = .slice ((m 3).ob) ((([] : List S_api_Item) ++ b).length) ((m 3).cap),(i 0).x = (i 0).x,oC (.slice ((m 3).ob) ((([] : List S_api_Item) ++ b).length) ((m 3).cap))]) (fun m => ⟨rfl,rfl,rfl,mlen S_api_Item.row b,rfl,rfl,(by rw [show ([] : List (List Value)) = List.map S_api_Item.row ([] : List S_api_Item) from rfl]; exact mlen S_api_Item.row ([] : List S_api_Item)),appb g7 (by rw [show ([] : List (List Value)) = List.map S_api_Item.row ([] : List S_api_Item) from rfl]; exact (mlen S_api_Item.row ([] : List S_api_Item)).symm) (mlen S_api_Item.row b).symm,(by rw [show List.map S_api_Item.row b = List.map S_api_Item.row b from rfl]; exact all_one S_api_Item.row _ (fun _ => rfl)),slen (by simp),rfl,rfl,trivial⟩) ?_
  intro m
  refine GS.conv (mem' := [(4,.cells ((i 0).x) 28 (kc0 l e.Epoch e.N ((h 3).ob) ((([] : List S_api_Entry) ++ c).length) ((h 3).cap) ((j 3).ob) ((([] : List S_api_Last) ++ a).length) ((j 3).cap) ((m 3).ob) ((([] : List S_api_Item) ++ b).length) ((m 3).cap))),(5,.cells ((i 1).x) 28 (kc6)),(6,o31 ((h 3).ob) ((h 3).cap) (([] : List S_api_Entry) ++ c)),(7,o94 ((j 3).ob) ((j 3).cap) (([] : List S_api_Last) ++ a)),(8,o91 ((m 3).ob) ((m 3).cap) (([] : List S_api_Item) ++ b))]) rfl (congrArg (fun rr : List (List Value) => ([(4,.cells ((i 0).x) 28 (kc0 l e.Epoch e.N ((h 3).ob) ((([] : List S_api_Entry) ++ c).length) ((h 3).cap) ((j 3).ob) ((([] : List S_api_Last) ++ a).length) ((j 3).cap) ((m 3).ob) ((([] : List S_api_Item) ++ b).length) ((m 3).cap))),(5,.cells ((i 1).x) 28 (kc6)),(6,o31 ((h 3).ob) ((h 3).cap) (([] : List S_api_Entry) ++ c)),(7,o94 ((j 3).ob) ((j 3).cap) (([] : List S_api_Last) ++ a)),(8,.osl ((m 3).ob) ((m 3).cap) 91 4 rr)] : List (Nat × Ent))) (show ([] : List (List Value)) ++ (List.map S_api_Item.row b) = List.map S_api_Item.row (([] : List S_api_Item) ++ b) from (by rw [show ([] : List (List Value)) = List.map S_api_Item.row ([] : List S_api_Item) from rfl,show List.map S_api_Item.row b = List.map S_api_Item.row b from rfl]; exact mapp S_api_Item.row _ _))) ?_
  refine GS.seq ?_
  refine GS.tg (fun _ => [(2,pA ((i 1).x) 0)]) (fun _ => [(5,.cells ((i 1).x) 28 (kc0 l e.Epoch e.N ((h 3).ob) ((([] : List S_api_Entry) ++ c).length) ((h 3).cap) ((j 3).ob) ((([] : List S_api_Last) ++ a).length) ((j 3).cap) ((m 3).ob) ((([] : List S_api_Item) ++ b).length) ((m 3).cap))),(6,o31 ((h 3).ob) ((h 3).cap) (([] : List S_api_Entry) ++ c)),(7,o94 ((j 3).ob) ((j 3).cap) (([] : List S_api_Last) ++ a)),(8,o91 ((m 3).ob) ((m 3).cap) (([] : List S_api_Item) ++ b))]) [(0,{ act := .load 4 0 0 [] }),(1,{ act := .store 0 0 [],key := some 5 })] (fun _ => [(i 0).x = (i 0).x,(i 1).x = (i 1).x,oC (.agg ((kc0 l e.Epoch e.N ((h 3).ob) ((([] : List S_api_Entry) ++ c).length) ((h 3).cap) ((j 3).ob) ((([] : List S_api_Last) ++ a).length) ((j 3).cap) ((m 3).ob) ((([] : List S_api_Item) ++ b).length) ((m 3).cap))).toArray)]) (fun _ => ⟨rfl,rfl,rfl,trivial⟩) ?_
  intro _
  have hy := Option.some.inj hm
  subst hy
  refine GS.ret (fn := Tryz.f59) [5] [.agg ((kc0 l e.Epoch e.N ((h 3).ob) ((([] : List S_api_Entry) ++ c).length) ((h 3).cap) ((j 3).ob) ((([] : List S_api_Last) ++ a).length) ((j 3).cap) ((m 3).ob) ((([] : List S_api_Item) ++ b).length) ((m 3).cap))).toArray] [(i 1).x = (i 1).x] rfl Tryz.func59 (by kernel_rfl) ⟨rfl,trivial⟩ (fun w' hs => ?_)
  exact ⟨⟨(h 3).ob,(h 3).cap,(j 3).ob,(j 3).cap,(m 3).ob,(m 3).cap⟩,rfl,hs.turnedG (ks := [6,7,8]) rfl rfl⟩

theorem w_tholeref13_Trim (F : Nat) (C : Int) (o : S_api_Version) (m : Option Addr) (z : Nat) (q : List S_api_Entry) (e : Option Addr) (r : Nat) (j : List S_api_Last) (f : Option Addr) (s : Nat) (l : List S_api_Item) (a1 : Int) {y : Int × S_api_Version × List S_api_Entry × List S_api_Last × List S_api_Item} (hm : m_tholeref13_Trim F C o q j l a1 = some y) : CallG Tryz.prog 36 #[.agg ((kc0 C o.Epoch o.N m q.length z e j.length r f l.length s)).toArray,vI a1] (X := Option Addr × Nat × Option Addr × Nat × Option Addr × Nat) (fun ⟨x0,x1,x2,x3,x4,x5⟩ => .agg ((kc0 y.1 y.2.1.Epoch y.2.1.N x0 y.2.2.1.length x1 x2 y.2.2.2.1.length x3 x4 y.2.2.2.2.length x5)).toArray) [] [r31 m q,r94 e j,r91 f l] (fun ⟨x0,x1,x2,x3,x4,x5⟩ => [r31 x0 y.2.2.1,Ent.fact (y.2.2.1.length ≤ x1),o94 x2 x3 y.2.2.2.1,o91 x4 x5 y.2.2.2.2]) := by
  intro w hg
  rw [m_tholeref13_Trim] at hm
  refine GS.start (S := mayT [] [r31 m q,r94 e j,r91 f l]) (mem := [(1,r31 m q),(2,r94 e j),(3,r91 f l)]) Tryz.func36 rfl Tryz.ntmps36 (Nat.le_of_ble_eq_true rfl) (hg.start rfl) ?_
  refine GS.conv (env' := [(0,.agg ((kc0 C o.Epoch o.N m q.length z e j.length r f l.length s)).toArray),(1,vI a1)]) rfl rfl ?_
  refine GS.seq ?_
  refine GS.tz (fun d => [(1,vI a1),(2,pA ((d 0).x) 0),(4,pA ((d 1).x) 0)]) (fun d => [(1,r31 m q),(2,r94 e j),(3,r91 f l),(4,.cells ((d 0).x) 28 (kc0 C o.Epoch o.N m q.length z e j.length r f l.length s)),(5,.cells ((d 1).x) 28 (kc6))]) [(0,{ act := .new .var,key := some 4 }),(1,{ act := .new .var,key := some 5 })] ?_
  intro d
  refine GS.seq ?_
  refine GS.seq ?_
  refine GS.tzM (fun _ => [(1,vI a1),(2,pA ((d 0).x) 0),(4,pA ((d 1).x) 0),(6,.bool (decide (a1 < 0)))]) [] ?_
  intro _
  refine jn_elim hm (fun J5 U hm => ?_)
  refine GS.cut (ι := Int) (I := fun (H : Int) => J5 H = some y) (E := fun (H : Int) => [(1,vI H),(2,pA ((d 0).x) 0),(4,pA ((d 1).x) 0)]) (M := fun (H : Int) => [(1,r31 m q),(2,r94 e j),(3,r91 f l),(4,.cells ((d 0).x) 28 (kc0 C o.Epoch o.N m q.length z e j.length r f l.length s)),(5,.cells ((d 1).x) 28 (kc6))]) ?_ ?_
  rotate_left
  · intro H6
    refine GS.cond (t := decide (a1 < 0)) rfl rfl (fun h3 => ?_) (fun h3 => ?_)
    · replace hm := br_t h3 hm
      refine GS.tzM (fun _ => [(1,vI 0),(2,pA ((d 0).x) 0),(4,pA ((d 1).x) 0)]) [] ?_
      intro _
      refine GS.rekey (env' := [(1,vI 0),(2,pA ((d 0).x) 0),(4,pA ((d 1).x) 0)]) (mem' := [(1,r31 m q),(2,r94 e j),(3,r91 f l),(4,.cells ((d 0).x) 28 (kc0 C o.Epoch o.N m q.length z e j.length r f l.length s)),(5,.cells ((d 1).x) 28 (kc6))]) [1,2,4] [(1,1),(2,2),(3,3),(4,4),(5,5)] (by kernel_rfl) (by kernel_rfl) rfl ?_
      exact H6 0 hm
    · replace hm := br_f h3 hm
      refine GS.skip ?_
      refine GS.rekey (env' := [(1,vI a1),(2,pA ((d 0).x) 0),(4,pA ((d 1).x) 0)]) (mem' := [(1,r31 m q),(2,r94 e j),(3,r91 f l),(4,.cells ((d 0).x) 28 (kc0 C o.Epoch o.N m q.length z e j.length r f l.length s)),(5,.cells ((d 1).x) 28 (kc6))]) [1,2,4] [(1,1),(2,2),(3,3),(4,4),(5,5)] (by kernel_rfl) (by kernel_rfl) rfl ?_
      exact H6 a1 hm
  · rintro H hm
    replace hm := (U _).symm.trans hm
    try dsimp only at hm
    refine GS.seq ?_
    refine bnd_elim hm (fun y9 V hm => ?_)
    refine GS.open_ ?_
    refine GR.rM (i := 0) 1 (env' := fun _ => [(1,vI H),(2,pA ((d 0).x) 0),(4,pA ((d 1).x) 0),(7,.agg ((kc0 C o.Epoch o.N m q.length z e j.length r f l.length s)).toArray)]) (by kernel_rfl) (RunsTo.mk [(0,{ act := .load 4 0 0 [] })] [1,2,4,7] [1,2,3,4,5] (fun _ => [(d 0).x = (d 0).x]) (fun _ => by kernel_rfl) (fun _ => ⟨rfl,trivial⟩)) ?_
    intro _
    refine GR.callG (X := Option Addr × Nat × Option Addr × Nat × Option Addr × Nat) (i := 1) (g := 59) (ro := [r31 m q,r94 e j,r91 f l]) (mem' := fun ⟨K,O,A,u,B,v⟩ => [(1,r31 m q),(2,r94 e j),(3,r91 f l),(4,.cells ((d 0).x) 28 (kc0 C o.Epoch o.N m q.length z e j.length r f l.length s)),(5,.cells ((d 1).x) 28 (kc6)),(6,o31 K O y9.2.2.1),(7,o94 A u y9.2.2.2.1),(8,o91 B v y9.2.2.2.2)]) (env' := fun ⟨K,O,A,u,B,v⟩ => [(1,vI H),(2,pA ((d 0).x) 0),(4,pA ((d 1).x) 0),(8,.agg ((kc0 y9.1 y9.2.1.Epoch y9.2.1.N K y9.2.2.1.length O A y9.2.2.2.1.length u B y9.2.2.2.2.length v)).toArray)]) [] [6,7,8] [1,2,4,8] [1,2,3,4,5,6,7,8] false (by kernel_rfl) (by kernel_rfl) (by kernel_rfl) (by kernel_rfl) (by kernel_rfl) (fun _ => rfl) (fun _ _ => rfl) ⟨(.inl ⟨1,_,rfl,rfl,Cov.refl _,fun h => by cases h⟩),(.inl ⟨2,_,rfl,rfl,Cov.refl _,fun h => by cases h⟩),(.inl ⟨3,_,rfl,rfl,Cov.refl _,fun h => by cases h⟩),trivial⟩ (by rintro ⟨K,O,A,u,B,v⟩; kernel_rfl) (by rintro ⟨K,O,A,u,B,v⟩; kernel_rfl) (w_tholeref13_Copy F C o m z q e r j f s l V) ?_
    rintro ⟨K,O,A,u,B,v⟩
    refine GR.ru (i := 2) 1 (env' := fun _ => [(1,vI H),(2,pA ((d 0).x) 0),(4,pA ((d 1).x) 0)]) (mem' := fun _ => [(4,.cells ((d 0).x) 28 (kc0 y9.1 y9.2.1.Epoch y9.2.1.N K y9.2.2.1.length O A y9.2.2.2.1.length u B y9.2.2.2.2.length v)),(5,.cells ((d 1).x) 28 (kc6)),(6,o31 K O y9.2.2.1),(7,o94 A u y9.2.2.2.1),(8,o91 B v y9.2.2.2.2)]) (by kernel_rfl) (RunsTo.mk [(2,{ act := .store 0 0 [],key := some 4 })] [1,2,4] [4,5,6,7,8] (fun _ => [(d 0).x = (d 0).x,oC (.agg ((kc0 y9.1 y9.2.1.Epoch y9.2.1.N K y9.2.2.1.length O A y9.2.2.2.1.length u B y9.2.2.2.2.length v)).toArray)]) (fun _ => by kernel_rfl) (fun _ => ⟨rfl,rfl,trivial⟩)) ?_
    intro _
    refine GR.dn (by kernel_rfl) ?_
    refine GS.seq ?_
    refine GS.block ?_
    refine GS.loop ?_
    refine GS.know (p := y9.2.2.1.length ≤ O) (fun w hw => by first | (have h := (hw.ok 6 _ rfl).1.1; rw [List.length_map] at h; exact h) | simpa using (hw.ok 6 _ rfl).1.1) (fun W => ?_)
    refine GS.know (p := y9.2.2.2.1.length ≤ u) (fun w hw => by first | (have h := (hw.ok 7 _ rfl).1.1; rw [List.length_map] at h; exact h) | simpa using (hw.ok 7 _ rfl).1.1) (fun Y => ?_)
    refine GS.know (p := y9.2.2.2.2.length ≤ v) (fun w hw => by first | (have h := (hw.ok 8 _ rfl).1.1; rw [List.length_map] at h; exact h) | simpa using (hw.ok 8 _ rfl).1.1) (fun Z => ?_)
    refine GS.setMem (mem' := [(4,.cells ((d 0).x) 28 (kc0 y9.1 y9.2.1.Epoch y9.2.1.N K y9.2.2.1.length O A y9.2.2.2.1.length u B y9.2.2.2.2.length v)),(5,.cells ((d 1).x) 28 (kc6)),(6,r31 K y9.2.2.1),(7,o94 A u y9.2.2.2.1),(8,o91 B v y9.2.2.2.2)]) (fun w hw => hw.downAt (k := 6) rfl Cov.osl_rd rfl rfl) ?_
    refine GS.rekey (env' := [(1,vI H),(2,pA ((d 0).x) 0),(4,pA ((d 1).x) 0)]) (mem' := [(4,.cells ((d 0).x) 28 (kc0 y9.1 y9.2.1.Epoch y9.2.1.N K y9.2.2.1.length O A y9.2.2.2.1.length u B y9.2.2.2.2.length v)),(5,.cells ((d 1).x) 28 (kc6)),(6,r31 K y9.2.2.1),(7,o94 A u y9.2.2.2.1),(8,o91 B v y9.2.2.2.2)]) [1,2,4] [(4,4),(5,5),(6,6),(7,7),(8,8)] (by kernel_rfl) (by kernel_rfl) rfl ?_
    refine loopW_elim hm (fun st60 hst62 hm => ?_)
    refine GS.loopInv (ι := Nat × Int × Int × List S_api_Entry × Option Addr × Nat) (I := fun ⟨L,D,G,b,n,c⟩ => (loopW st60 L (D,G,b) = some y) ∧ b.length ≤ c) (μ := fun ⟨L,D,G,b,n,c⟩ => L) (E := fun ⟨L,D,G,b,n,c⟩ => [(1,vI H),(2,pA ((d 0).x) 0),(4,pA ((d 1).x) 0)]) (M := fun ⟨L,D,G,b,n,c⟩ => [(4,.cells ((d 0).x) 28 (kc0 y9.1 D G n b.length c A y9.2.2.2.1.length u B y9.2.2.2.2.length v)),(5,.cells ((d 1).x) 28 (kc6)),(6,r31 n b),(7,o94 A u y9.2.2.2.1),(8,o91 B v y9.2.2.2.2)]) ?_ ⟨F,y9.2.1.Epoch,y9.2.1.N,y9.2.2.1,K,O⟩ ⟨hm,W⟩
    rintro ⟨L,D,G,b,n,c⟩ ⟨hm,J⟩ R
    cases L with
    | zero => cases hm
    | succ L =>
      replace hm := (hst62 _ _).symm.trans hm
      try dsimp only at hm
      refine GS.seq ?_
      refine GS.seq ?_
      refine GS.tgM (fun _ => [(1,vI H),(2,pA ((d 0).x) 0),(4,pA ((d 1).x) 0),(13,.bool (decide ((b.length : Int) > H)))]) [(1,{ act := .load 4 0 0 [] })] (fun _ => [(d 0).x = (d 0).x]) (fun _ => ⟨rfl,trivial⟩) ?_
      intro _
      refine GS.cond (t := decide ((b.length : Int) > H)) rfl rfl (fun Q => ?_) (fun Q => ?_)
      · replace hm := br_t Q hm
        refine GS.skip ?_
        refine GS.block ?_
        refine GS.seq ?_
        refine grd_elim hm (fun T hm => ?_)
        refine GS.tg (fun _ => [(1,vI H),(2,pA ((d 0).x) 0),(4,pA ((d 1).x) 0)]) (fun _ => [(4,.cells ((d 0).x) 28 (kc0 y9.1 (((b.getD 0 dS_api_Entry).Version).Epoch) (((b.getD 0 dS_api_Entry).Version).N) n b.length c A y9.2.2.2.1.length u B y9.2.2.2.2.length v)),(5,.cells ((d 1).x) 28 (kc6)),(6,r31 n b),(7,o94 A u y9.2.2.2.1),(8,o91 B v y9.2.2.2.2)]) [(1,{ act := .load 4 0 0 [] }),(2,{ act := .idx 6 0 }),(4,{ act := .load 6 0 0 [vI (((b.getD 0 dS_api_Entry).Version).Epoch),vI (((b.getD 0 dS_api_Entry).Version).N),.bool ((b.getD 0 dS_api_Entry).Remove),vI ((b.getD 0 dS_api_Entry).Errno),.string ((b.getD 0 dS_api_Entry).Name),vI ((b.getD 0 dS_api_Entry).Client),vI ((b.getD 0 dS_api_Entry).Number)] }),(6,{ act := .store 0 0 [],key := some 4 })] (fun _ => [(d 0).x = (d 0).x,n = n,b.length = (List.map S_api_Entry.row b).length,(0 : Int) = (0 : Int),0 < b.length,blk n = blk n,offs n + 0 * 7 = offs n + (0 * 7 + 0),(List.map S_api_Entry.row b)[0]? = some [vI (((b.getD 0 dS_api_Entry).Version).Epoch),vI (((b.getD 0 dS_api_Entry).Version).N),.bool ((b.getD 0 dS_api_Entry).Remove),vI ((b.getD 0 dS_api_Entry).Errno),.string ((b.getD 0 dS_api_Entry).Name),vI ((b.getD 0 dS_api_Entry).Client),vI ((b.getD 0 dS_api_Entry).Number)],(d 0).x = (d 0).x,oC (.agg #[vI (((b.getD 0 dS_api_Entry).Version).Epoch),vI (((b.getD 0 dS_api_Entry).Version).N)])]) (fun _ => ⟨rfl,rfl,mlen S_api_Entry.row b,rfl,T,rfl,rfl,map_at S_api_Entry.row dS_api_Entry T,rfl,rfl,trivial⟩) ?_
        intro _
        refine grd_elim hm (fun P hm => ?_)
        refine GS.open_ ?_
        refine GR.rM (i := 0) 4 (env' := fun _ => [(1,vI H),(2,pA ((d 0).x) 0),(4,pA ((d 1).x) 0),(22,.slice (cutOb n 1 c 7) (((b.drop 1).take (b.length - 1)).length) (c - 1)),(23,pA ((d 0).x) 3)]) (by kernel_rfl) (RunsTo.mk [(1,{ act := .load 4 0 0 [] }),(2,{ act := .cut 1 b.length c,sp := some (.slice (cutOb n 1 c 7) (((b.drop 1).take (b.length - 1)).length) (c - 1)) })] [1,2,4,22,23] [4,5,6,7,8] (fun _ => [(d 0).x = (d 0).x,1 = (1 : Int),b.length = b.length,c = c,1 ≤ b.length,b.length ≤ c,c ≤ c,(none : Option Operand) = none → (none : Option Operand) = none,((.slice (if c = 1 then n else (n).map (fun a => a.add (1 * 7))) (b.length - 1) (c - 1)) : Value) = .slice (cutOb n 1 c 7) (((b.drop 1).take (b.length - 1)).length) (c - 1)]) (fun _ => by kernel_rfl) (fun _ => ⟨rfl,rfl,rfl,rfl,P,(Nat.le_trans (Nat.le_refl _) J),(Nat.le_refl _),(by intro h; first | rfl | cases h),slen (by simp only [List.length_take,List.length_drop]; have h1 : b.length ≤ b.length := (Nat.le_refl _); have h2 : 1 ≤ b.length := P; omega),trivial⟩)) ?_
        intro _
        refine GR.setMem (mem' := [(4,.cells ((d 0).x) 28 (kc0 y9.1 (((b.getD 0 dS_api_Entry).Version).Epoch) (((b.getD 0 dS_api_Entry).Version).N) n b.length c A y9.2.2.2.1.length u B y9.2.2.2.2.length v)),(5,.cells ((d 1).x) 28 (kc6)),(6,r31 n b),(7,o94 A u y9.2.2.2.1),(8,o91 B v y9.2.2.2.2),(9,.rd (cutOb n 1 c 7) 7 (((List.map S_api_Entry.row b).drop 1).take (b.length - 1)))]) (fun w hw => Sat.addCov (k0 := 6) hw rfl rfl rfl (rd_cut P (Nat.le_trans (Nat.le_refl _) J)) rfl) ?_
        refine GR.conv (mem' := [(4,.cells ((d 0).x) 28 (kc0 y9.1 (((b.getD 0 dS_api_Entry).Version).Epoch) (((b.getD 0 dS_api_Entry).Version).N) n b.length c A y9.2.2.2.1.length u B y9.2.2.2.2.length v)),(5,.cells ((d 1).x) 28 (kc6)),(6,r31 n b),(7,o94 A u y9.2.2.2.1),(8,o91 B v y9.2.2.2.2),(9,r31 (cutOb n 1 c 7) ((b.drop 1).take (b.length - 1)))]) rfl (congrArg (fun rr : List (List Value) => ([(4,.cells ((d 0).x) 28 (kc0 y9.1 (((b.getD 0 dS_api_Entry).Version).Epoch) (((b.getD 0 dS_api_Entry).Version).N) n b.length c A y9.2.2.2.1.length u B y9.2.2.2.2.length v)),(5,.cells ((d 1).x) 28 (kc6)),(6,r31 n b),(7,o94 A u y9.2.2.2.1),(8,o91 B v y9.2.2.2.2),(9,.rd (cutOb n 1 c 7) 7 rr)] : List (Nat × Ent))) (show ((List.map S_api_Entry.row b).drop 1).take (b.length - 1) = List.map S_api_Entry.row ((b.drop 1).take (b.length - 1)) from (by simp only [List.drop_zero,Nat.sub_zero,List.map_take,List.map_drop]))) ?_
        refine GR.ru (i := 4) 1 (env' := fun _ => [(1,vI H),(2,pA ((d 0).x) 0),(4,pA ((d 1).x) 0)]) (mem' := fun _ => [(4,.cells ((d 0).x) 28 (kc0 y9.1 (((b.getD 0 dS_api_Entry).Version).Epoch) (((b.getD 0 dS_api_Entry).Version).N) (cutOb n 1 c 7) (((b.drop 1).take (b.length - 1)).length) (c - 1) A y9.2.2.2.1.length u B y9.2.2.2.2.length v)),(5,.cells ((d 1).x) 28 (kc6)),(7,o94 A u y9.2.2.2.1),(8,o91 B v y9.2.2.2.2),(9,r31 (cutOb n 1 c 7) ((b.drop 1).take (b.length - 1)))]) (by kernel_rfl) (RunsTo.mk [(4,{ act := .store 0 0 [],key := some 4 })] [1,2,4] [4,5,7,8,9] (fun _ => [(d 0).x = (d 0).x,oC (.slice (cutOb n 1 c 7) (((b.drop 1).take (b.length - 1)).length) (c - 1))]) (fun _ => by kernel_rfl) (fun _ => ⟨rfl,rfl,trivial⟩)) ?_
        intro _
        refine GR.dn (by kernel_rfl) ?_
        refine GS.inBlock ?_
        refine GS.inLoop ?_
        refine GS.rekey (env' := [(1,vI H),(2,pA ((d 0).x) 0),(4,pA ((d 1).x) 0)]) (mem' := [(4,.cells ((d 0).x) 28 (kc0 y9.1 (((b.getD 0 dS_api_Entry).Version).Epoch) (((b.getD 0 dS_api_Entry).Version).N) (cutOb n 1 c 7) (((b.drop 1).take (b.length - 1)).length) (c - 1) A y9.2.2.2.1.length u B y9.2.2.2.2.length v)),(5,.cells ((d 1).x) 28 (kc6)),(6,r31 (cutOb n 1 c 7) ((b.drop 1).take (b.length - 1))),(7,o94 A u y9.2.2.2.1),(8,o91 B v y9.2.2.2.2)]) [1,2,4] [(4,4),(5,5),(6,9),(7,7),(8,8)] (by kernel_rfl) (by kernel_rfl) rfl ?_
        exact R ⟨L,(((b.getD 0 dS_api_Entry).Version).Epoch),(((b.getD 0 dS_api_Entry).Version).N),((b.drop 1).take (b.length - 1)),cutOb n 1 c 7,c - 1⟩ ⟨hm,(by simp only [List.length_take,List.length_drop]; have h1 : b.length ≤ c := (Nat.le_trans (Nat.le_refl _) J); have h2 : 1 ≤ b.length := P; omega)⟩ (Nat.lt_succ_self _)
      · replace hm := br_f Q hm
        refine GS.exit rfl ?_
        refine GS.seq ?_
        refine GS.tg (fun _ => [(4,pA ((d 1).x) 0)]) (fun _ => [(5,.cells ((d 1).x) 28 (kc0 y9.1 D G n b.length c A y9.2.2.2.1.length u B y9.2.2.2.2.length v)),(6,r31 n b),(7,o94 A u y9.2.2.2.1),(8,o91 B v y9.2.2.2.2)]) [(0,{ act := .load 4 0 0 [] }),(1,{ act := .store 0 0 [],key := some 5 })] (fun _ => [(d 0).x = (d 0).x,(d 1).x = (d 1).x,oC (.agg ((kc0 y9.1 D G n b.length c A y9.2.2.2.1.length u B y9.2.2.2.2.length v)).toArray)]) (fun _ => ⟨rfl,rfl,rfl,trivial⟩) ?_
        intro _
        refine GS.setMem (mem' := [(5,.cells ((d 1).x) 28 (kc0 y9.1 D G n b.length c A y9.2.2.2.1.length u B y9.2.2.2.2.length v)),(6,r31 n b),(7,o94 A u y9.2.2.2.1),(8,o91 B v y9.2.2.2.2),(9,Ent.fact (b.length ≤ c))]) (fun w hw => Sat.addFact hw rfl J) ?_
        have hy := Option.some.inj hm
        subst hy
        refine GS.ret (fn := Tryz.f36) [5] [.agg ((kc0 y9.1 D G n b.length c A y9.2.2.2.1.length u B y9.2.2.2.2.length v)).toArray] [(d 1).x = (d 1).x] rfl Tryz.func36 (by kernel_rfl) ⟨rfl,trivial⟩ (fun w' hs => ?_)
        exact ⟨⟨n,c,A,u,B,v⟩,rfl,hs.turnedG (ks := [6,9,7,8]) rfl rfl⟩

theorem w_tholeref18_Take (F : Nat) (r : Int) (f : S_api_Version) (c : Option Addr) (o : Nat) (m : List S_api_Entry) (a : Option Addr) (j : Nat) (d : List S_api_Last) (b : Option Addr) (l : Nat) (e : List S_api_Item) (a1 : S_api_Entry) (a2 : Int) {y : Int × S_api_Version × List S_api_Entry × List S_api_Last × List S_api_Item × Int} (hm : m_tholeref18_Take F r f m d e a1 a2 = some y) : CallG Tryz.prog 9 #[.agg ((kc0 r f.Epoch f.N c m.length o a d.length j b e.length l)).toArray,.agg ((kc1 a1.Version.Epoch a1.Version.N a1.Remove a1.Errno a1.Name a1.Client a1.Number)).toArray,.int .u32 a2] (X := Option Addr × Nat × Option Addr × Nat × Option Addr × Nat) (fun ⟨x0,x1,x2,x3,x4,x5⟩ => .tuple #[.agg ((kc0 y.1 y.2.1.Epoch y.2.1.N x0 y.2.2.1.length x1 x2 y.2.2.2.1.length x3 x4 y.2.2.2.2.1.length x5)).toArray,vI y.2.2.2.2.2]) [] [r31 c m,r94 a d,r91 b e] (fun ⟨x0,x1,x2,x3,x4,x5⟩ => [r31 x0 y.2.2.1,r94 x2 y.2.2.2.1,r91 x4 y.2.2.2.2.1]) := by
  intro w hg
  rw [m_tholeref18_Take] at hm
  refine GS.start (S := mayT [] [r31 c m,r94 a d,r91 b e]) (mem := [(1,r31 c m),(2,r94 a d),(3,r91 b e)]) Tryz.func9 rfl Tryz.ntmps9 (Nat.le_of_ble_eq_true rfl) (hg.start rfl) ?_
  refine GS.conv (env' := [(0,.agg ((kc0 r f.Epoch f.N c m.length o a d.length j b e.length l)).toArray),(1,.agg ((kc1 a1.Version.Epoch a1.Version.N a1.Remove a1.Errno a1.Name a1.Client a1.Number)).toArray),(2,.int .u32 a2)]) rfl rfl ?_
  refine GS.seq ?_
  refine GS.tz (fun n => [(2,.int .u32 a2),(3,pA ((n 0).x) 0),(4,pA ((n 1).x) 0),(6,pA ((n 2).x) 0)]) (fun n => [(1,r31 c m),(2,r94 a d),(3,r91 b e),(4,.cells ((n 0).x) 28 (kc0 r f.Epoch f.N c m.length o a d.length j b e.length l)),(5,.cells ((n 1).x) 31 (kc1 a1.Version.Epoch a1.Version.N a1.Remove a1.Errno a1.Name a1.Client a1.Number)),(6,.cells ((n 2).x) 28 (kc6))]) [(0,{ act := .new .var,key := some 4 }),(1,{ act := .new .var,key := some 5 }),(2,{ act := .new .var,key := some 6 })] ?_
  intro n
  refine GS.seq ?_
  refine bnd_elim hm (fun y3 e4 hm => ?_)
  refine GS.tg (fun G => [(2,.int .u32 a2),(3,pA ((n 0).x) 0),(4,pA ((n 1).x) 0),(6,pA ((n 2).x) 0),(8,pA ((G 2).x) 0)]) (fun G => [(1,r31 c m),(2,r94 a d),(3,r91 b e),(4,.cells ((n 0).x) 28 (kc0 r f.Epoch f.N c m.length o a d.length j b e.length l)),(5,.cells ((n 1).x) 31 (kc1 a1.Version.Epoch a1.Version.N a1.Remove a1.Errno a1.Name a1.Client a1.Number)),(6,.cells ((n 2).x) 28 (kc6)),(7,.cells ((G 2).x) 23 [vI y3.Epoch,vI y3.N])]) [(0,{ act := .load 4 0 0 [] }),(1,{ act := .call [1,2,3] (.agg #[vI y3.Epoch,vI y3.N]) }),(2,{ act := .new .var,key := some 7 }),(3,{ act := .store 0 0 [],key := some 7 })] (fun G => [(n 0).x = (n 0).x,CallOK Tryz.prog 18 #[.agg ((kc0 r f.Epoch f.N c m.length o a d.length j b e.length l)).toArray] (.agg #[vI y3.Epoch,vI y3.N]) [some (r31 c m),some (r94 a d),some (r91 b e)],(G 2).x = (G 2).x,oC (.agg #[vI y3.Epoch,vI y3.N])]) (fun G => ⟨rfl,(by have h1 := w_tholeref13_Head F r f c o m a j d b l e e4; exact h1.ok ⟨(.inl ⟨r31 c m,.head _,Cov.refl _⟩),(.inl ⟨r94 a d,(.tail _ (.head _)),Cov.refl _⟩),(.inl ⟨r91 b e,(.tail _ (.tail _ (.head _))),Cov.refl _⟩),trivial⟩),rfl,rfl,trivial⟩) ?_
  intro G
  refine GS.seq ?_
  refine GS.seq ?_
  refine bnd_elim hm (fun y6 e7 hm => ?_)
  refine GS.tgM (fun _ => [(2,.int .u32 a2),(3,pA ((n 0).x) 0),(4,pA ((n 1).x) 0),(6,pA ((n 2).x) 0),(8,pA ((G 2).x) 0),(17,.bool (decide (y6 ≤ 0)))]) [(1,{ act := .load 5 0 0 [] }),(2,{ act := .load 7 0 0 [] }),(3,{ act := .call [] (vI y6) })] (fun _ => [(n 1).x = (n 1).x,(G 2).x = (G 2).x,CallOK Tryz.prog 28 #[.agg #[vI a1.Version.Epoch,vI a1.Version.N],.agg #[vI y3.Epoch,vI y3.N]] (vI y6) []]) (fun _ => ⟨rfl,rfl,(by have h1 := w_tholeref13_Cmp F a1.Version y3 e7; exact h1.ok trivial),trivial⟩) ?_
  intro _
  refine GS.cond (t := decide (y6 ≤ 0)) rfl rfl (fun h8 => ?_) (fun h8 => ?_)
  · replace hm := br_t h8 hm
    refine GS.seq ?_
    refine GS.tg (fun _ => [(6,pA ((n 2).x) 0),(7,vI 0)]) (fun _ => [(1,r31 c m),(2,r94 a d),(3,r91 b e),(6,.cells ((n 2).x) 28 (kc0 r f.Epoch f.N c m.length o a d.length j b e.length l))]) [(0,{ act := .load 4 0 0 [] }),(1,{ act := .store 0 0 [],key := some 6 })] (fun _ => [(n 0).x = (n 0).x,(n 2).x = (n 2).x,oC (.agg ((kc0 r f.Epoch f.N c m.length o a d.length j b e.length l)).toArray)]) (fun _ => ⟨rfl,rfl,rfl,trivial⟩) ?_
    intro _
    have hy := Option.some.inj hm
    subst hy
    refine GS.ret (fn := Tryz.f9) [6,0] [.agg ((kc0 r f.Epoch f.N c m.length o a d.length j b e.length l)).toArray,vI 0] [(n 2).x = (n 2).x] rfl Tryz.func9 (by kernel_rfl) ⟨rfl,trivial⟩ (fun w' hs => ?_)
    exact ⟨⟨c,o,a,j,b,l⟩,rfl,hs.turnedG (ks := [1,2,3]) rfl rfl⟩
  · replace hm := br_f h8 hm
    refine GS.skip ?_
    refine GS.seq ?_
    refine GS.seq ?_
    refine GS.tg (fun _ => [(2,.int .u32 a2),(3,pA ((n 0).x) 0),(4,pA ((n 1).x) 0),(6,pA ((n 2).x) 0),(25,.bool (a1.Version.N != (IntKind.i64.wrap (y3.N + 1))))]) (fun _ => [(1,r31 c m),(2,r94 a d),(3,r91 b e),(4,.cells ((n 0).x) 28 (kc0 r f.Epoch f.N c m.length o a d.length j b e.length l)),(5,.cells ((n 1).x) 31 (kc1 a1.Version.Epoch a1.Version.N a1.Remove a1.Errno a1.Name a1.Client a1.Number)),(6,.cells ((n 2).x) 28 (kc6))]) [(2,{ act := .load 5 0 0 [] }),(4,{ act := .load 7 0 0 [] })] (fun _ => [(n 1).x = (n 1).x,(G 2).x = (G 2).x]) (fun _ => ⟨rfl,rfl,trivial⟩) ?_
    intro _
    refine GS.cond (t := a1.Version.N != (IntKind.i64.wrap (y3.N + 1))) rfl rfl (fun M => ?_) (fun M => ?_)
    · replace hm := br_t M hm
      refine GS.seq ?_
      refine GS.tg (fun _ => [(6,pA ((n 2).x) 0),(7,vI (-1))]) (fun _ => [(1,r31 c m),(2,r94 a d),(3,r91 b e),(6,.cells ((n 2).x) 28 (kc0 r f.Epoch f.N c m.length o a d.length j b e.length l))]) [(0,{ act := .load 4 0 0 [] }),(1,{ act := .store 0 0 [],key := some 6 })] (fun _ => [(n 0).x = (n 0).x,(n 2).x = (n 2).x,oC (.agg ((kc0 r f.Epoch f.N c m.length o a d.length j b e.length l)).toArray)]) (fun _ => ⟨rfl,rfl,rfl,trivial⟩) ?_
      intro _
      have hy := Option.some.inj hm
      subst hy
      refine GS.ret (fn := Tryz.f9) [6,0] [.agg ((kc0 r f.Epoch f.N c m.length o a d.length j b e.length l)).toArray,vI (-1)] [(n 2).x = (n 2).x] rfl Tryz.func9 (by kernel_rfl) ⟨rfl,trivial⟩ (fun w' hs => ?_)
      exact ⟨⟨c,o,a,j,b,l⟩,rfl,hs.turnedG (ks := [1,2,3]) rfl rfl⟩
    · replace hm := br_f M hm
      refine GS.skip ?_
      refine GS.seq ?_
      refine bnd_elim hm (fun q P hm => ?_)
      refine GS.open_ ?_
      refine GR.ru (i := 0) 3 (env' := fun _ => [(3,pA ((n 0).x) 0),(6,pA ((n 2).x) 0),(28,.agg ((kc0 r f.Epoch f.N c m.length o a d.length j b e.length l)).toArray),(29,.agg ((kc1 a1.Version.Epoch a1.Version.N a1.Remove a1.Errno a1.Name a1.Client a1.Number)).toArray),(30,.int .u32 a2)]) (mem' := fun _ => [(1,r31 c m),(2,r94 a d),(3,r91 b e),(4,.cells ((n 0).x) 28 (kc0 r f.Epoch f.N c m.length o a d.length j b e.length l)),(6,.cells ((n 2).x) 28 (kc6))]) (by kernel_rfl) (RunsTo.mk [(0,{ act := .load 4 0 0 [] }),(1,{ act := .load 5 0 0 [] })] [3,6,28,29,30] [1,2,3,4,6] (fun _ => [(n 0).x = (n 0).x,(n 1).x = (n 1).x]) (fun _ => by kernel_rfl) (fun _ => ⟨rfl,rfl,trivial⟩)) ?_
      intro _
      refine GR.callG (X := Option Addr × Nat × Option Addr × Nat × Option Addr × Nat) (i := 3) (g := 35) (ro := [r31 c m,r94 a d,r91 b e]) (mem' := fun ⟨v,L,z,J,A,H⟩ => [(1,r31 c m),(2,r94 a d),(3,r91 b e),(4,.cells ((n 0).x) 28 (kc0 r f.Epoch f.N c m.length o a d.length j b e.length l)),(6,.cells ((n 2).x) 28 (kc6)),(8,o31 v L q.2.2.1),(9,o94 z J q.2.2.2.1),(10,o91 A H q.2.2.2.2.1)]) (env' := fun ⟨v,L,z,J,A,H⟩ => [(3,pA ((n 0).x) 0),(6,pA ((n 2).x) 0),(31,.tuple #[.agg ((kc0 q.1 q.2.1.Epoch q.2.1.N v q.2.2.1.length L z q.2.2.2.1.length J A q.2.2.2.2.1.length H)).toArray,vI q.2.2.2.2.2])]) [] [8,9,10] [3,6,31] [1,2,3,4,6,8,9,10] false (by kernel_rfl) (by kernel_rfl) (by kernel_rfl) (by kernel_rfl) (by kernel_rfl) (fun _ => rfl) (fun _ _ => rfl) ⟨(.inl ⟨1,_,rfl,rfl,Cov.refl _,fun h => by cases h⟩),(.inl ⟨2,_,rfl,rfl,Cov.refl _,fun h => by cases h⟩),(.inl ⟨3,_,rfl,rfl,Cov.refl _,fun h => by cases h⟩),trivial⟩ (by rintro ⟨v,L,z,J,A,H⟩; kernel_rfl) (by rintro ⟨v,L,z,J,A,H⟩; kernel_rfl) (w_tholeref13_Append F r f c o m a j d b l e a1 a2 P) ?_
      rintro ⟨v,L,z,J,A,H⟩
      refine GR.ru (i := 4) 6 (env' := fun u => [(3,pA ((n 0).x) 0),(6,pA ((n 2).x) 0),(9,pA ((u 7).x) 0),(10,vI q.2.2.2.2.2)]) (mem' := fun u => [(1,r31 c m),(2,r94 a d),(3,r91 b e),(4,.cells ((n 0).x) 28 (kc0 r f.Epoch f.N c m.length o a d.length j b e.length l)),(6,.cells ((n 2).x) 28 (kc6)),(8,o31 v L q.2.2.1),(9,o94 z J q.2.2.2.1),(10,o91 A H q.2.2.2.2.1),(11,.cells ((u 7).x) 28 (kc0 q.1 q.2.1.Epoch q.2.1.N v q.2.2.1.length L z q.2.2.2.1.length J A q.2.2.2.2.1.length H))]) (by kernel_rfl) (RunsTo.mk [(7,{ act := .new .var,key := some 11 }),(8,{ act := .store 0 0 [],key := some 11 })] [3,6,9,10] [1,2,3,4,6,8,9,10,11] (fun u => [(u 7).x = (u 7).x,oC (.agg ((kc0 q.1 q.2.1.Epoch q.2.1.N v q.2.2.1.length L z q.2.2.2.1.length J A q.2.2.2.2.1.length H)).toArray)]) (fun u => by kernel_rfl) (fun u => ⟨rfl,rfl,trivial⟩)) ?_
      intro u
      refine GR.dn (by kernel_rfl) ?_
      refine GS.seq ?_
      refine GS.seq ?_
      refine GS.tzM (fun _ => [(3,pA ((n 0).x) 0),(6,pA ((n 2).x) 0),(9,pA ((u 7).x) 0),(35,.bool (q.2.2.2.2.2 != 0))]) [] ?_
      intro _
      refine GS.cond (t := q.2.2.2.2.2 != 0) rfl rfl (fun O => ?_) (fun O => ?_)
      · replace hm := br_t O hm
        refine GS.seq ?_
        refine GS.tg (fun _ => [(6,pA ((n 2).x) 0),(7,vI (-1))]) (fun _ => [(1,r31 c m),(2,r94 a d),(3,r91 b e),(6,.cells ((n 2).x) 28 (kc0 r f.Epoch f.N c m.length o a d.length j b e.length l))]) [(0,{ act := .load 4 0 0 [] }),(1,{ act := .store 0 0 [],key := some 6 })] (fun _ => [(n 0).x = (n 0).x,(n 2).x = (n 2).x,oC (.agg ((kc0 r f.Epoch f.N c m.length o a d.length j b e.length l)).toArray)]) (fun _ => ⟨rfl,rfl,rfl,trivial⟩) ?_
        intro _
        have hy := Option.some.inj hm
        subst hy
        refine GS.ret (fn := Tryz.f9) [6,0] [.agg ((kc0 r f.Epoch f.N c m.length o a d.length j b e.length l)).toArray,vI (-1)] [(n 2).x = (n 2).x] rfl Tryz.func9 (by kernel_rfl) ⟨rfl,trivial⟩ (fun w' hs => ?_)
        exact ⟨⟨c,o,a,j,b,l⟩,rfl,hs.turnedG (ks := [1,2,3]) rfl rfl⟩
      · replace hm := br_f O hm
        refine GS.skip ?_
        refine GS.seq ?_
        refine bnd_elim hm (fun s Q hm => ?_)
        refine GS.open_ ?_
        refine GR.ru (i := 0) 1 (env' := fun _ => [(6,pA ((n 2).x) 0),(37,.agg ((kc0 q.1 q.2.1.Epoch q.2.1.N v q.2.2.1.length L z q.2.2.2.1.length J A q.2.2.2.2.1.length H)).toArray)]) (mem' := fun _ => [(6,.cells ((n 2).x) 28 (kc6)),(8,o31 v L q.2.2.1),(9,o94 z J q.2.2.2.1),(10,o91 A H q.2.2.2.2.1)]) (by kernel_rfl) (RunsTo.mk [(0,{ act := .load 11 0 0 [] })] [6,37] [6,8,9,10] (fun _ => [(u 7).x = (u 7).x]) (fun _ => by kernel_rfl) (fun _ => ⟨rfl,trivial⟩)) ?_
        intro _
        refine GR.setMem (mem' := [(6,.cells ((n 2).x) 28 (kc6)),(8,r31 v q.2.2.1),(9,o94 z J q.2.2.2.1),(10,o91 A H q.2.2.2.2.1)]) (fun w hw => hw.downAt (k := 8) rfl Cov.osl_rd rfl rfl) ?_
        refine GR.setMem (mem' := [(6,.cells ((n 2).x) 28 (kc6)),(8,r31 v q.2.2.1),(9,r94 z q.2.2.2.1),(10,o91 A H q.2.2.2.2.1)]) (fun w hw => hw.downAt (k := 9) rfl Cov.osl_rd rfl rfl) ?_
        refine GR.setMem (mem' := [(6,.cells ((n 2).x) 28 (kc6)),(8,r31 v q.2.2.1),(9,r94 z q.2.2.2.1),(10,r91 A q.2.2.2.2.1)]) (fun w hw => hw.downAt (k := 10) rfl Cov.osl_rd rfl rfl) ?_
        refine GR.callG (X := Option Addr × Nat × Option Addr × Nat × Option Addr × Nat) (i := 1) (g := 36) (ro := [r31 v q.2.2.1,r94 z q.2.2.2.1,r91 A q.2.2.2.2.1]) (mem' := fun ⟨B,K,C,I,D,E⟩ => [(6,.cells ((n 2).x) 28 (kc6)),(8,r31 v q.2.2.1),(9,r94 z q.2.2.2.1),(10,r91 A q.2.2.2.2.1),(12,r31 B s.2.2.1),(13,Ent.fact (s.2.2.1.length ≤ K)),(14,o94 C I s.2.2.2.1),(15,o91 D E s.2.2.2.2)]) (env' := fun ⟨B,K,C,I,D,E⟩ => [(6,pA ((n 2).x) 0),(38,.agg ((kc0 s.1 s.2.1.Epoch s.2.1.N B s.2.2.1.length K C s.2.2.2.1.length I D s.2.2.2.2.length E)).toArray)]) [] [12,13,14,15] [6,38] [6,8,9,10,12,13,14,15] true (by kernel_rfl) (by kernel_rfl) (by kernel_rfl) (by kernel_rfl) (by kernel_rfl) (fun _ => rfl) (fun h => by cases h) ⟨(.inl ⟨8,_,rfl,rfl,Cov.refl _,fun _ => rfl⟩),(.inl ⟨9,_,rfl,rfl,Cov.refl _,fun _ => rfl⟩),(.inl ⟨10,_,rfl,rfl,Cov.refl _,fun _ => rfl⟩),trivial⟩ (by rintro ⟨B,K,C,I,D,E⟩; kernel_rfl) (by rintro ⟨B,K,C,I,D,E⟩; kernel_rfl) (w_tholeref13_Trim F q.1 q.2.1 v L q.2.2.1 z J q.2.2.2.1 A H q.2.2.2.2.1 32 Q) ?_
        rintro ⟨B,K,C,I,D,E⟩
        refine GR.know (p := s.2.2.1.length ≤ K) (fun w hw => (hw.ok 13 _ rfl).1) (fun R => ?_)
        refine GR.ru (i := 2) 2 (env' := fun _ => [(6,pA ((n 2).x) 0),(7,vI 1)]) (mem' := fun _ => [(6,.cells ((n 2).x) 28 (kc0 s.1 s.2.1.Epoch s.2.1.N B s.2.2.1.length K C s.2.2.2.1.length I D s.2.2.2.2.length E)),(12,r31 B s.2.2.1),(14,o94 C I s.2.2.2.1),(15,o91 D E s.2.2.2.2)]) (by kernel_rfl) (RunsTo.mk [(2,{ act := .store 0 0 [],key := some 6 })] [6,7] [6,12,14,15] (fun _ => [(n 2).x = (n 2).x,oC (.agg ((kc0 s.1 s.2.1.Epoch s.2.1.N B s.2.2.1.length K C s.2.2.2.1.length I D s.2.2.2.2.length E)).toArray)]) (fun _ => by kernel_rfl) (fun _ => ⟨rfl,rfl,trivial⟩)) ?_
        intro _
        refine GR.dn (by kernel_rfl) ?_
        refine GS.know (p := s.2.2.2.1.length ≤ I) (fun w hw => by first | (have h := (hw.ok 14 _ rfl).1.1; rw [List.length_map] at h; exact h) | simpa using (hw.ok 14 _ rfl).1.1) (fun T => ?_)
        refine GS.setMem (mem' := [(6,.cells ((n 2).x) 28 (kc0 s.1 s.2.1.Epoch s.2.1.N B s.2.2.1.length K C s.2.2.2.1.length I D s.2.2.2.2.length E)),(12,r31 B s.2.2.1),(14,r94 C s.2.2.2.1),(15,o91 D E s.2.2.2.2)]) (fun w hw => hw.downAt (k := 14) rfl Cov.osl_rd rfl rfl) ?_
        refine GS.know (p := s.2.2.2.2.length ≤ E) (fun w hw => by first | (have h := (hw.ok 15 _ rfl).1.1; rw [List.length_map] at h; exact h) | simpa using (hw.ok 15 _ rfl).1.1) (fun U => ?_)
        refine GS.setMem (mem' := [(6,.cells ((n 2).x) 28 (kc0 s.1 s.2.1.Epoch s.2.1.N B s.2.2.1.length K C s.2.2.2.1.length I D s.2.2.2.2.length E)),(12,r31 B s.2.2.1),(14,r94 C s.2.2.2.1),(15,r91 D s.2.2.2.2)]) (fun w hw => hw.downAt (k := 15) rfl Cov.osl_rd rfl rfl) ?_
        have hy := Option.some.inj hm
        subst hy
        refine GS.ret (fn := Tryz.f9) [6,0] [.agg ((kc0 s.1 s.2.1.Epoch s.2.1.N B s.2.2.1.length K C s.2.2.2.1.length I D s.2.2.2.2.length E)).toArray,vI 1] [(n 2).x = (n 2).x] rfl Tryz.func9 (by kernel_rfl) ⟨rfl,trivial⟩ (fun w' hs => ?_)
        exact ⟨⟨B,K,C,I,D,E⟩,rfl,hs.turnedG (ks := [12,14,15]) rfl rfl⟩

theorem w_tholeref13_Same (F : Nat) (C : Int) (n : S_api_Version) (l : Option Addr) (A : Nat) (k : List S_api_Entry) (e : Option Addr) (s : Nat) (b : List S_api_Last) (f : Option Addr) (u : Nat) (a : List S_api_Item) (D : Int) (o : S_api_Version) (m : Option Addr) (B : Nat) (j : List S_api_Entry) (g : Option Addr) (v : Nat) (c : List S_api_Last) (h : Option Addr) (z : Nat) (d : List S_api_Item) {y : Bool} (hm : m_tholeref13_Same F C n k b a D o j c d = some y) : CallG Tryz.prog 10 #[.agg ((kc0 C n.Epoch n.N l k.length A e b.length s f a.length u)).toArray,.agg ((kc0 D o.Epoch o.N m j.length B g c.length v h d.length z)).toArray] (X := Unit) (fun (_ : Unit) => .bool y) [] [r31 l k,r94 e b,r91 f a,r31 m j,r94 g c,r91 h d] (fun (_ : Unit) => []) := by
  intro w hg
  rw [m_tholeref13_Same] at hm
  refine GS.start (S := mayT [] [r31 l k,r94 e b,r91 f a,r31 m j,r94 g c,r91 h d]) (mem := [(1,r31 l k),(2,r94 e b),(3,r91 f a),(4,r31 m j),(5,r94 g c),(6,r91 h d)]) Tryz.func10 rfl Tryz.ntmps10 (Nat.le_of_ble_eq_true rfl) (hg.start rfl) ?_
  refine GS.conv (env' := [(0,.agg ((kc0 C n.Epoch n.N l k.length A e b.length s f a.length u)).toArray),(1,.agg ((kc0 D o.Epoch o.N m j.length B g c.length v h d.length z)).toArray)]) rfl rfl ?_
  refine GS.seq ?_
  refine GS.tz (fun i => [(2,pA ((i 0).x) 0),(3,pA ((i 1).x) 0)]) (fun i => [(1,r31 l k),(2,r94 e b),(3,r91 f a),(4,r31 m j),(5,r94 g c),(6,r91 h d),(7,.cells ((i 0).x) 28 (kc0 C n.Epoch n.N l k.length A e b.length s f a.length u)),(8,.cells ((i 1).x) 28 (kc0 D o.Epoch o.N m j.length B g c.length v h d.length z))]) [(0,{ act := .new .var,key := some 7 }),(1,{ act := .new .var,key := some 8 })] ?_
  intro i
  refine GS.seq ?_
  refine GS.seq ?_
  refine jn_elim hm (fun J7 ai hm => ?_)
  refine GS.cut (ι := Bool) (I := fun (O : Bool) => J7 O = some y) (E := fun (O : Bool) => [(2,pA ((i 0).x) 0),(3,pA ((i 1).x) 0),(46,.bool O)]) (M := fun (O : Bool) => [(1,r31 l k),(2,r94 e b),(3,r91 f a),(4,r31 m j),(5,r94 g c),(6,r91 h d),(7,.cells ((i 0).x) 28 (kc0 C n.Epoch n.N l k.length A e b.length s f a.length u)),(8,.cells ((i 1).x) 28 (kc0 D o.Epoch o.N m j.length B g c.length v h d.length z))]) ?_ ?_
  rotate_left
  · intro H8
    refine br_elim hm (fun h3 hm => ?_) (fun h3 hm => ?_)
    · skip
      refine GS.tgM (fun _ => [(2,pA ((i 0).x) 0),(3,pA ((i 1).x) 0),(46,.bool true)]) [(1,{ act := .load 7 0 0 [] }),(3,{ act := .load 8 0 0 [] }),(5,{ sp := some (.bool true) })] (fun _ => [(i 0).x = (i 0).x,(i 1).x = (i 1).x,((.bool (C != D)) : Value) = .bool true]) (fun _ => ⟨rfl,rfl,bool_eq h3,trivial⟩) ?_
      intro _
      refine GS.rekey (env' := [(2,pA ((i 0).x) 0),(3,pA ((i 1).x) 0),(46,.bool true)]) (mem' := [(1,r31 l k),(2,r94 e b),(3,r91 f a),(4,r31 m j),(5,r94 g c),(6,r91 h d),(7,.cells ((i 0).x) 28 (kc0 C n.Epoch n.N l k.length A e b.length s f a.length u)),(8,.cells ((i 1).x) 28 (kc0 D o.Epoch o.N m j.length B g c.length v h d.length z))]) [2,3,46] [(1,1),(2,2),(3,3),(4,4),(5,5),(6,6),(7,7),(8,8)] (by kernel_rfl) (by kernel_rfl) rfl ?_
      exact H8 true hm
    · skip
      refine br_elim hm (fun h4 hm => ?_) (fun h4 hm => ?_)
      · skip
        refine GS.tgM (fun _ => [(2,pA ((i 0).x) 0),(3,pA ((i 1).x) 0),(46,.bool true)]) [(1,{ act := .load 7 0 0 [] }),(3,{ act := .load 8 0 0 [] }),(5,{ sp := some (.bool false) }),(7,{ act := .load 7 0 0 [] }),(9,{ act := .load 8 0 0 [] }),(10,{ act := .eq }),(12,{ sp := some (.bool true) })] (fun _ => [(i 0).x = (i 0).x,(i 1).x = (i 1).x,((.bool (C != D)) : Value) = .bool false,(i 0).x = (i 0).x,(i 1).x = (i 1).x,((.bool (!(S_api_Version.beq n o))) : Value) = .bool true]) (fun _ => ⟨rfl,rfl,bool_eq h3,rfl,rfl,bool_eq h4,trivial⟩) ?_
        intro _
        refine GS.rekey (env' := [(2,pA ((i 0).x) 0),(3,pA ((i 1).x) 0),(46,.bool true)]) (mem' := [(1,r31 l k),(2,r94 e b),(3,r91 f a),(4,r31 m j),(5,r94 g c),(6,r91 h d),(7,.cells ((i 0).x) 28 (kc0 C n.Epoch n.N l k.length A e b.length s f a.length u)),(8,.cells ((i 1).x) 28 (kc0 D o.Epoch o.N m j.length B g c.length v h d.length z))]) [2,3,46] [(1,1),(2,2),(3,3),(4,4),(5,5),(6,6),(7,7),(8,8)] (by kernel_rfl) (by kernel_rfl) rfl ?_
        exact H8 true hm
      · skip
        refine br_elim hm (fun h5 hm => ?_) (fun h5 hm => ?_)
        · skip
          refine GS.tgM (fun _ => [(2,pA ((i 0).x) 0),(3,pA ((i 1).x) 0),(46,.bool true)]) [(1,{ act := .load 7 0 0 [] }),(3,{ act := .load 8 0 0 [] }),(5,{ sp := some (.bool false) }),(7,{ act := .load 7 0 0 [] }),(9,{ act := .load 8 0 0 [] }),(10,{ act := .eq }),(12,{ sp := some (.bool false) }),(14,{ act := .load 7 0 0 [] }),(17,{ act := .load 8 0 0 [] }),(21,{ sp := some (.bool true) })] (fun _ => [(i 0).x = (i 0).x,(i 1).x = (i 1).x,((.bool (C != D)) : Value) = .bool false,(i 0).x = (i 0).x,(i 1).x = (i 1).x,((.bool (!(S_api_Version.beq n o))) : Value) = .bool false,(i 0).x = (i 0).x,(i 1).x = (i 1).x,((.bool ((k.length : Int) != (j.length : Int))) : Value) = .bool true]) (fun _ => ⟨rfl,rfl,bool_eq h3,rfl,rfl,bool_eq h4,rfl,rfl,bool_eq h5,trivial⟩) ?_
          intro _
          refine GS.rekey (env' := [(2,pA ((i 0).x) 0),(3,pA ((i 1).x) 0),(46,.bool true)]) (mem' := [(1,r31 l k),(2,r94 e b),(3,r91 f a),(4,r31 m j),(5,r94 g c),(6,r91 h d),(7,.cells ((i 0).x) 28 (kc0 C n.Epoch n.N l k.length A e b.length s f a.length u)),(8,.cells ((i 1).x) 28 (kc0 D o.Epoch o.N m j.length B g c.length v h d.length z))]) [2,3,46] [(1,1),(2,2),(3,3),(4,4),(5,5),(6,6),(7,7),(8,8)] (by kernel_rfl) (by kernel_rfl) rfl ?_
          exact H8 true hm
        · skip
          refine br_elim hm (fun h6 hm => ?_) (fun h6 hm => ?_)
          · skip
            refine GS.tgM (fun _ => [(2,pA ((i 0).x) 0),(3,pA ((i 1).x) 0),(46,.bool true)]) [(1,{ act := .load 7 0 0 [] }),(3,{ act := .load 8 0 0 [] }),(5,{ sp := some (.bool false) }),(7,{ act := .load 7 0 0 [] }),(9,{ act := .load 8 0 0 [] }),(10,{ act := .eq }),(12,{ sp := some (.bool false) }),(14,{ act := .load 7 0 0 [] }),(17,{ act := .load 8 0 0 [] }),(21,{ sp := some (.bool false) }),(23,{ act := .load 7 0 0 [] }),(26,{ act := .load 8 0 0 [] }),(30,{ sp := some (.bool true) })] (fun _ => [(i 0).x = (i 0).x,(i 1).x = (i 1).x,((.bool (C != D)) : Value) = .bool false,(i 0).x = (i 0).x,(i 1).x = (i 1).x,((.bool (!(S_api_Version.beq n o))) : Value) = .bool false,(i 0).x = (i 0).x,(i 1).x = (i 1).x,((.bool ((k.length : Int) != (j.length : Int))) : Value) = .bool false,(i 0).x = (i 0).x,(i 1).x = (i 1).x,((.bool ((b.length : Int) != (c.length : Int))) : Value) = .bool true]) (fun _ => ⟨rfl,rfl,bool_eq h3,rfl,rfl,bool_eq h4,rfl,rfl,bool_eq h5,rfl,rfl,bool_eq h6,trivial⟩) ?_
            intro _
            refine GS.rekey (env' := [(2,pA ((i 0).x) 0),(3,pA ((i 1).x) 0),(46,.bool true)]) (mem' := [(1,r31 l k),(2,r94 e b),(3,r91 f a),(4,r31 m j),(5,r94 g c),(6,r91 h d),(7,.cells ((i 0).x) 28 (kc0 C n.Epoch n.N l k.length A e b.length s f a.length u)),(8,.cells ((i 1).x) 28 (kc0 D o.Epoch o.N m j.length B g c.length v h d.length z))]) [2,3,46] [(1,1),(2,2),(3,3),(4,4),(5,5),(6,6),(7,7),(8,8)] (by kernel_rfl) (by kernel_rfl) rfl ?_
            exact H8 true hm
          · skip
            refine GS.tgM (fun _ => [(2,pA ((i 0).x) 0),(3,pA ((i 1).x) 0),(46,.bool ((a.length : Int) != (d.length : Int)))]) [(1,{ act := .load 7 0 0 [] }),(3,{ act := .load 8 0 0 [] }),(5,{ sp := some (.bool false) }),(7,{ act := .load 7 0 0 [] }),(9,{ act := .load 8 0 0 [] }),(10,{ act := .eq }),(12,{ sp := some (.bool false) }),(14,{ act := .load 7 0 0 [] }),(17,{ act := .load 8 0 0 [] }),(21,{ sp := some (.bool false) }),(23,{ act := .load 7 0 0 [] }),(26,{ act := .load 8 0 0 [] }),(30,{ sp := some (.bool false) }),(32,{ act := .load 7 0 0 [] }),(35,{ act := .load 8 0 0 [] })] (fun _ => [(i 0).x = (i 0).x,(i 1).x = (i 1).x,((.bool (C != D)) : Value) = .bool false,(i 0).x = (i 0).x,(i 1).x = (i 1).x,((.bool (!(S_api_Version.beq n o))) : Value) = .bool false,(i 0).x = (i 0).x,(i 1).x = (i 1).x,((.bool ((k.length : Int) != (j.length : Int))) : Value) = .bool false,(i 0).x = (i 0).x,(i 1).x = (i 1).x,((.bool ((b.length : Int) != (c.length : Int))) : Value) = .bool false,(i 0).x = (i 0).x,(i 1).x = (i 1).x]) (fun _ => ⟨rfl,rfl,bool_eq h3,rfl,rfl,bool_eq h4,rfl,rfl,bool_eq h5,rfl,rfl,bool_eq h6,rfl,rfl,trivial⟩) ?_
            intro _
            refine GS.rekey (env' := [(2,pA ((i 0).x) 0),(3,pA ((i 1).x) 0),(46,.bool ((a.length : Int) != (d.length : Int)))]) (mem' := [(1,r31 l k),(2,r94 e b),(3,r91 f a),(4,r31 m j),(5,r94 g c),(6,r91 h d),(7,.cells ((i 0).x) 28 (kc0 C n.Epoch n.N l k.length A e b.length s f a.length u)),(8,.cells ((i 1).x) 28 (kc0 D o.Epoch o.N m j.length B g c.length v h d.length z))]) [2,3,46] [(1,1),(2,2),(3,3),(4,4),(5,5),(6,6),(7,7),(8,8)] (by kernel_rfl) (by kernel_rfl) rfl ?_
            exact H8 ((a.length : Int) != (d.length : Int)) hm
  · rintro O hm
    replace hm := (ai _).symm.trans hm
    try dsimp only at hm
    refine GS.cond (t := O) rfl rfl (fun W => ?_) (fun W => ?_)
    · replace hm := br_t W hm
      refine GS.seq ?_
      refine GS.tz (fun _ => [(4,.bool false)]) (fun _ => []) [] ?_
      intro _
      have hy := Option.some.inj hm
      subst hy
      refine GS.ret (fn := Tryz.f10) [0] [.bool false] [] rfl Tryz.func10 (by kernel_rfl) trivial (fun w' hs => ?_)
      exact ⟨(),rfl,hs.turnedG (ks := []) rfl rfl⟩
    · replace hm := br_f W hm
      refine GS.skip ?_
      refine GS.seq ?_
      refine GS.seq ?_
      refine GS.tgM (fun _ => [(2,pA ((i 0).x) 0),(3,pA ((i 1).x) 0),(49,vI (k.length : Int)),(50,vI 0)]) [(1,{ act := .load 7 0 0 [] })] (fun _ => [(i 0).x = (i 0).x]) (fun _ => ⟨rfl,trivial⟩) ?_
      intro _
      refine GS.block ?_
      refine GS.loop ?_
      refine grd_elim hm (fun aj hm => ?_)
      refine GS.rekey (env' := [(2,pA ((i 0).x) 0),(3,pA ((i 1).x) 0),(49,vI (k.length : Int)),(50,vI 0)]) (mem' := [(1,r31 l k),(2,r94 e b),(3,r91 f a),(4,r31 m j),(5,r94 g c),(6,r91 h d),(7,.cells ((i 0).x) 28 (kc0 C n.Epoch n.N l k.length A e b.length s f a.length u)),(8,.cells ((i 1).x) 28 (kc0 D o.Epoch o.N m j.length B g c.length v h d.length z))]) [2,3,49,50] [(1,1),(2,2),(3,3),(4,4),(5,5),(6,6),(7,7),(8,8)] (by kernel_rfl) (by kernel_rfl) rfl ?_
      refine loopL_elim hm (fun st48 fn49 hst50 hfn51 hm => ?_)
      refine GS.loopInv (ι := List S_api_Entry × Nat) (I := fun ⟨J,p⟩ => k.drop p = J ∧ loopL st48 fn49 J p () = some y) (μ := fun ⟨J,p⟩ => J.length) (E := fun ⟨J,p⟩ => [(2,pA ((i 0).x) 0),(3,pA ((i 1).x) 0),(49,vI (k.length : Int)),(50,vI (p : Int))]) (M := fun ⟨J,p⟩ => [(1,r31 l k),(2,r94 e b),(3,r91 f a),(4,r31 m j),(5,r94 g c),(6,r91 h d),(7,.cells ((i 0).x) 28 (kc0 C n.Epoch n.N l k.length A e b.length s f a.length u)),(8,.cells ((i 1).x) 28 (kc0 D o.Epoch o.N m j.length B g c.length v h d.length z))]) ?_ ⟨k,0⟩ ⟨List.drop_zero ..,hm⟩
      rintro ⟨J,p⟩ ⟨R,hm⟩ ab
      cases J with
      | nil =>
        replace hm := (hfn51 _ _).symm.trans hm
        try dsimp only at hm
        refine GS.seq ?_
        refine GS.tzM (fun _ => [(2,pA ((i 0).x) 0),(3,pA ((i 1).x) 0),(49,vI (k.length : Int)),(50,vI (p : Int)),(51,.bool (decide ((p : Int) < (k.length : Int))))]) [] ?_
        intro _
        refine GS.seq ?_
        refine GS.cond (t := decide ((p : Int) < (k.length : Int))) rfl rfl (fun ak => absb ak (drop_dec0 R)) (fun _ => ?_)
        refine GS.exit rfl ?_
        refine GS.seq ?_
        refine GS.seq ?_
        refine GS.tgM (fun _ => [(2,pA ((i 0).x) 0),(3,pA ((i 1).x) 0),(67,vI (b.length : Int)),(68,vI 0)]) [(1,{ act := .load 7 0 0 [] })] (fun _ => [(i 0).x = (i 0).x]) (fun _ => ⟨rfl,trivial⟩) ?_
        intro _
        refine GS.block ?_
        refine GS.loop ?_
        refine grd_elim hm (fun al hm => ?_)
        refine GS.rekey (env' := [(2,pA ((i 0).x) 0),(3,pA ((i 1).x) 0),(67,vI (b.length : Int)),(68,vI 0)]) (mem' := [(1,r31 l k),(2,r94 e b),(3,r91 f a),(4,r31 m j),(5,r94 g c),(6,r91 h d),(7,.cells ((i 0).x) 28 (kc0 C n.Epoch n.N l k.length A e b.length s f a.length u)),(8,.cells ((i 1).x) 28 (kc0 D o.Epoch o.N m j.length B g c.length v h d.length z))]) [2,3,67,68] [(1,1),(2,2),(3,3),(4,4),(5,5),(6,6),(7,7),(8,8)] (by kernel_rfl) (by kernel_rfl) rfl ?_
        refine loopL_elim hm (fun st88 fn89 hst90 hfn91 hm => ?_)
        refine GS.loopInv (ι := List S_api_Last × Nat) (I := fun ⟨K,q⟩ => b.drop q = K ∧ loopL st88 fn89 K q () = some y) (μ := fun ⟨K,q⟩ => K.length) (E := fun ⟨K,q⟩ => [(2,pA ((i 0).x) 0),(3,pA ((i 1).x) 0),(67,vI (b.length : Int)),(68,vI (q : Int))]) (M := fun ⟨K,q⟩ => [(1,r31 l k),(2,r94 e b),(3,r91 f a),(4,r31 m j),(5,r94 g c),(6,r91 h d),(7,.cells ((i 0).x) 28 (kc0 C n.Epoch n.N l k.length A e b.length s f a.length u)),(8,.cells ((i 1).x) 28 (kc0 D o.Epoch o.N m j.length B g c.length v h d.length z))]) ?_ ⟨b,0⟩ ⟨List.drop_zero ..,hm⟩
        rintro ⟨K,q⟩ ⟨T,hm⟩ ac
        cases K with
        | nil =>
          replace hm := (hfn91 _ _).symm.trans hm
          try dsimp only at hm
          refine GS.seq ?_
          refine GS.tzM (fun _ => [(2,pA ((i 0).x) 0),(3,pA ((i 1).x) 0),(67,vI (b.length : Int)),(68,vI (q : Int)),(69,.bool (decide ((q : Int) < (b.length : Int))))]) [] ?_
          intro _
          refine GS.seq ?_
          refine GS.cond (t := decide ((q : Int) < (b.length : Int))) rfl rfl (fun am => absb am (drop_dec0 T)) (fun _ => ?_)
          refine GS.exit rfl ?_
          refine GS.seq ?_
          refine GS.seq ?_
          refine GS.tgM (fun _ => [(2,pA ((i 0).x) 0),(3,pA ((i 1).x) 0),(85,vI (a.length : Int)),(86,vI 0)]) [(1,{ act := .load 7 0 0 [] })] (fun _ => [(i 0).x = (i 0).x]) (fun _ => ⟨rfl,trivial⟩) ?_
          intro _
          refine GS.block ?_
          refine GS.loop ?_
          refine grd_elim hm (fun ad hm => ?_)
          refine GS.rekey (env' := [(2,pA ((i 0).x) 0),(3,pA ((i 1).x) 0),(85,vI (a.length : Int)),(86,vI 0)]) (mem' := [(1,r31 l k),(2,r94 e b),(3,r91 f a),(4,r31 m j),(5,r94 g c),(6,r91 h d),(7,.cells ((i 0).x) 28 (kc0 C n.Epoch n.N l k.length A e b.length s f a.length u)),(8,.cells ((i 1).x) 28 (kc0 D o.Epoch o.N m j.length B g c.length v h d.length z))]) [2,3,85,86] [(1,1),(2,2),(3,3),(4,4),(5,5),(6,6),(7,7),(8,8)] (by kernel_rfl) (by kernel_rfl) rfl ?_
          refine loopL_elim hm (fun st128 fn129 hst130 hfn131 hm => ?_)
          refine GS.loopInv (ι := List S_api_Item × Nat) (I := fun ⟨G,r⟩ => a.drop r = G ∧ loopL st128 fn129 G r () = some y) (μ := fun ⟨G,r⟩ => G.length) (E := fun ⟨G,r⟩ => [(2,pA ((i 0).x) 0),(3,pA ((i 1).x) 0),(85,vI (a.length : Int)),(86,vI (r : Int))]) (M := fun ⟨G,r⟩ => [(1,r31 l k),(2,r94 e b),(3,r91 f a),(4,r31 m j),(5,r94 g c),(6,r91 h d),(7,.cells ((i 0).x) 28 (kc0 C n.Epoch n.N l k.length A e b.length s f a.length u)),(8,.cells ((i 1).x) 28 (kc0 D o.Epoch o.N m j.length B g c.length v h d.length z))]) ?_ ⟨a,0⟩ ⟨List.drop_zero ..,hm⟩
          rintro ⟨G,r⟩ ⟨P,hm⟩ Y
          cases G with
          | nil =>
            replace hm := (hfn131 _ _).symm.trans hm
            try dsimp only at hm
            refine GS.seq ?_
            refine GS.tzM (fun _ => [(2,pA ((i 0).x) 0),(3,pA ((i 1).x) 0),(85,vI (a.length : Int)),(86,vI (r : Int)),(87,.bool (decide ((r : Int) < (a.length : Int))))]) [] ?_
            intro _
            refine GS.seq ?_
            refine GS.cond (t := decide ((r : Int) < (a.length : Int))) rfl rfl (fun ae => absb ae (drop_dec0 P)) (fun _ => ?_)
            refine GS.exit rfl ?_
            refine GS.seq ?_
            refine GS.tz (fun _ => [(4,.bool true)]) (fun _ => []) [] ?_
            intro _
            have hy := Option.some.inj hm
            subst hy
            refine GS.ret (fn := Tryz.f10) [0] [.bool true] [] rfl Tryz.func10 (by kernel_rfl) trivial (fun w' hs => ?_)
            exact ⟨(),rfl,hs.turnedG (ks := []) rfl rfl⟩
          | cons L G =>
            replace hm := (hst130 _ _ _ _).symm.trans hm
            try dsimp only at hm
            refine GS.seq ?_
            refine GS.tzM (fun _ => [(2,pA ((i 0).x) 0),(3,pA ((i 1).x) 0),(85,vI (a.length : Int)),(86,vI (r : Int)),(87,.bool (decide ((r : Int) < (a.length : Int))))]) [] ?_
            intro _
            refine GS.seq ?_
            refine GS.cond (t := decide ((r : Int) < (a.length : Int))) rfl rfl (fun _ => ?_) (fun af => absb (drop_dec P) af)
            refine GS.skip ?_
            refine GS.seq ?_
            refine GS.block ?_
            refine GS.seq ?_
            refine GS.tzM (fun _ => [(2,pA ((i 0).x) 0),(3,pA ((i 1).x) 0),(7,vI (r : Int)),(85,vI (a.length : Int)),(86,vI (r : Int))]) [] ?_
            intro _
            refine GS.seq ?_
            refine grd_elim hm (fun V hm => ?_)
            refine GS.rM (env' := fun _ => [(2,pA ((i 0).x) 0),(3,pA ((i 1).x) 0),(85,vI (a.length : Int)),(86,vI (r : Int)),(99,.bool (!(S_api_Item.beq L (d.getD r dS_api_Item))))]) (RunsTo.mkd [(1,{ act := .load 7 0 0 [] }),(3,{ act := .idx 3 r }),(4,{ act := .load 3 r 0 [.string L.Name,vI L.Version.Epoch,vI L.Version.N,.int .u32 L.Crc] }),(6,{ act := .load 8 0 0 [] }),(8,{ act := .idx 6 r }),(9,{ act := .load 6 r 0 [.string ((d.getD r dS_api_Item).Name),vI (((d.getD r dS_api_Item).Version).Epoch),vI (((d.getD r dS_api_Item).Version).N),.int .u32 ((d.getD r dS_api_Item).Crc)] }),(10,{ act := .eq })] [2,3,85,86,99] [1,2,3,4,5,6,7,8] (fun _ => [(i 0).x = (i 0).x,f = f,a.length = (List.map S_api_Item.row a).length,((r : Int) : Int) = (r : Int),r < a.length,blk f = blk f,offs f + r * 4 = offs f + (r * 4 + 0),(List.map S_api_Item.row a)[r]? = some [.string L.Name,vI L.Version.Epoch,vI L.Version.N,.int .u32 L.Crc],(i 1).x = (i 1).x,h = h,d.length = (List.map S_api_Item.row d).length,((r : Int) : Int) = (r : Int),r < d.length,blk h = blk h,offs h + r * 4 = offs h + (r * 4 + 0),(List.map S_api_Item.row d)[r]? = some [.string ((d.getD r dS_api_Item).Name),vI (((d.getD r dS_api_Item).Version).Epoch),vI (((d.getD r dS_api_Item).Version).N),.int .u32 ((d.getD r dS_api_Item).Crc)]]) (by kernel_rfl) (by kernel_rfl) (fun _ => by kernel_rfl) (fun _ => ⟨rfl,rfl,mlen S_api_Item.row a,rfl,(drop_lt P),rfl,rfl,map_drop S_api_Item.row P,rfl,rfl,mlen S_api_Item.row d,rfl,V,rfl,rfl,map_at S_api_Item.row dS_api_Item V,trivial⟩)) ?_
            intro _
            refine GS.cond (t := !(S_api_Item.beq L (d.getD r dS_api_Item))) rfl rfl (fun U => ?_) (fun U => ?_)
            · replace hm := br_t U hm
              refine GS.seq ?_
              refine GS.tz (fun _ => [(4,.bool false)]) (fun _ => []) [] ?_
              intro _
              have hy := Option.some.inj hm
              subst hy
              refine GS.ret (fn := Tryz.f10) [0] [.bool false] [] rfl Tryz.func10 (by kernel_rfl) trivial (fun w' hs => ?_)
              exact ⟨(),rfl,hs.turnedG (ks := []) rfl rfl⟩
            · replace hm := br_f U hm
              refine GS.skip ?_
              refine GS.inBlock ?_
              refine GS.tgM (fun _ => [(2,pA ((i 0).x) 0),(3,pA ((i 1).x) 0),(85,vI (a.length : Int)),(86,vI ((r + 1 : Nat) : Int))]) [(0,{ sp := some (vI ((r + 1 : Nat) : Int)) })] (fun _ => [((vI (IntKind.i64.wrap ((r : Int) + 1))) : Value) = vI ((r + 1 : Nat) : Int)]) (fun _ => ⟨natw (drop_lt P) ad,trivial⟩) ?_
              intro _
              refine GS.inLoop ?_
              refine GS.rekey (env' := [(2,pA ((i 0).x) 0),(3,pA ((i 1).x) 0),(85,vI (a.length : Int)),(86,vI ((r + 1 : Nat) : Int))]) (mem' := [(1,r31 l k),(2,r94 e b),(3,r91 f a),(4,r31 m j),(5,r94 g c),(6,r91 h d),(7,.cells ((i 0).x) 28 (kc0 C n.Epoch n.N l k.length A e b.length s f a.length u)),(8,.cells ((i 1).x) 28 (kc0 D o.Epoch o.N m j.length B g c.length v h d.length z))]) [2,3,85,86] [(1,1),(2,2),(3,3),(4,4),(5,5),(6,6),(7,7),(8,8)] (by kernel_rfl) (by kernel_rfl) rfl ?_
              exact Y ⟨G,r + 1⟩ ⟨drop_next P,hm⟩ (Nat.lt_succ_self _)
        | cons Q K =>
          replace hm := (hst90 _ _ _ _).symm.trans hm
          try dsimp only at hm
          refine GS.seq ?_
          refine GS.tzM (fun _ => [(2,pA ((i 0).x) 0),(3,pA ((i 1).x) 0),(67,vI (b.length : Int)),(68,vI (q : Int)),(69,.bool (decide ((q : Int) < (b.length : Int))))]) [] ?_
          intro _
          refine GS.seq ?_
          refine GS.cond (t := decide ((q : Int) < (b.length : Int))) rfl rfl (fun _ => ?_) (fun an => absb (drop_dec T) an)
          refine GS.skip ?_
          refine GS.seq ?_
          refine GS.block ?_
          refine GS.seq ?_
          refine GS.tzM (fun _ => [(2,pA ((i 0).x) 0),(3,pA ((i 1).x) 0),(6,vI (q : Int)),(67,vI (b.length : Int)),(68,vI (q : Int))]) [] ?_
          intro _
          refine GS.seq ?_
          refine grd_elim hm (fun ag hm => ?_)
          refine GS.rM (env' := fun _ => [(2,pA ((i 0).x) 0),(3,pA ((i 1).x) 0),(67,vI (b.length : Int)),(68,vI (q : Int)),(81,.bool (!(S_api_Last.beq Q (c.getD q dS_api_Last))))]) (RunsTo.mkd [(1,{ act := .load 7 0 0 [] }),(3,{ act := .idx 2 q }),(4,{ act := .load 2 q 0 [vI Q.Client,vI Q.Number,vI Q.Errno,vI Q.Version.Epoch,vI Q.Version.N] }),(6,{ act := .load 8 0 0 [] }),(8,{ act := .idx 5 q }),(9,{ act := .load 5 q 0 [vI ((c.getD q dS_api_Last).Client),vI ((c.getD q dS_api_Last).Number),vI ((c.getD q dS_api_Last).Errno),vI (((c.getD q dS_api_Last).Version).Epoch),vI (((c.getD q dS_api_Last).Version).N)] }),(10,{ act := .eq })] [2,3,67,68,81] [1,2,3,4,5,6,7,8] (fun _ => [(i 0).x = (i 0).x,e = e,b.length = (List.map S_api_Last.row b).length,((q : Int) : Int) = (q : Int),q < b.length,blk e = blk e,offs e + q * 5 = offs e + (q * 5 + 0),(List.map S_api_Last.row b)[q]? = some [vI Q.Client,vI Q.Number,vI Q.Errno,vI Q.Version.Epoch,vI Q.Version.N],(i 1).x = (i 1).x,g = g,c.length = (List.map S_api_Last.row c).length,((q : Int) : Int) = (q : Int),q < c.length,blk g = blk g,offs g + q * 5 = offs g + (q * 5 + 0),(List.map S_api_Last.row c)[q]? = some [vI ((c.getD q dS_api_Last).Client),vI ((c.getD q dS_api_Last).Number),vI ((c.getD q dS_api_Last).Errno),vI (((c.getD q dS_api_Last).Version).Epoch),vI (((c.getD q dS_api_Last).Version).N)]]) (by kernel_rfl) (by kernel_rfl) (fun _ => by kernel_rfl) (fun _ => ⟨rfl,rfl,mlen S_api_Last.row b,rfl,(drop_lt T),rfl,rfl,map_drop S_api_Last.row T,rfl,rfl,mlen S_api_Last.row c,rfl,ag,rfl,rfl,map_at S_api_Last.row dS_api_Last ag,trivial⟩)) ?_
          intro _
          refine GS.cond (t := !(S_api_Last.beq Q (c.getD q dS_api_Last))) rfl rfl (fun Z => ?_) (fun Z => ?_)
          · replace hm := br_t Z hm
            refine GS.seq ?_
            refine GS.tz (fun _ => [(4,.bool false)]) (fun _ => []) [] ?_
            intro _
            have hy := Option.some.inj hm
            subst hy
            refine GS.ret (fn := Tryz.f10) [0] [.bool false] [] rfl Tryz.func10 (by kernel_rfl) trivial (fun w' hs => ?_)
            exact ⟨(),rfl,hs.turnedG (ks := []) rfl rfl⟩
          · replace hm := br_f Z hm
            refine GS.skip ?_
            refine GS.inBlock ?_
            refine GS.tgM (fun _ => [(2,pA ((i 0).x) 0),(3,pA ((i 1).x) 0),(67,vI (b.length : Int)),(68,vI ((q + 1 : Nat) : Int))]) [(0,{ sp := some (vI ((q + 1 : Nat) : Int)) })] (fun _ => [((vI (IntKind.i64.wrap ((q : Int) + 1))) : Value) = vI ((q + 1 : Nat) : Int)]) (fun _ => ⟨natw (drop_lt T) al,trivial⟩) ?_
            intro _
            refine GS.inLoop ?_
            refine GS.rekey (env' := [(2,pA ((i 0).x) 0),(3,pA ((i 1).x) 0),(67,vI (b.length : Int)),(68,vI ((q + 1 : Nat) : Int))]) (mem' := [(1,r31 l k),(2,r94 e b),(3,r91 f a),(4,r31 m j),(5,r94 g c),(6,r91 h d),(7,.cells ((i 0).x) 28 (kc0 C n.Epoch n.N l k.length A e b.length s f a.length u)),(8,.cells ((i 1).x) 28 (kc0 D o.Epoch o.N m j.length B g c.length v h d.length z))]) [2,3,67,68] [(1,1),(2,2),(3,3),(4,4),(5,5),(6,6),(7,7),(8,8)] (by kernel_rfl) (by kernel_rfl) rfl ?_
            exact ac ⟨K,q + 1⟩ ⟨drop_next T,hm⟩ (Nat.lt_succ_self _)
      | cons H J =>
        replace hm := (hst50 _ _ _ _).symm.trans hm
        try dsimp only at hm
        refine GS.seq ?_
        refine GS.tzM (fun _ => [(2,pA ((i 0).x) 0),(3,pA ((i 1).x) 0),(49,vI (k.length : Int)),(50,vI (p : Int)),(51,.bool (decide ((p : Int) < (k.length : Int))))]) [] ?_
        intro _
        refine GS.seq ?_
        refine GS.cond (t := decide ((p : Int) < (k.length : Int))) rfl rfl (fun _ => ?_) (fun ao => absb (drop_dec R) ao)
        refine GS.skip ?_
        refine GS.seq ?_
        refine GS.block ?_
        refine GS.seq ?_
        refine GS.tzM (fun _ => [(2,pA ((i 0).x) 0),(3,pA ((i 1).x) 0),(5,vI (p : Int)),(49,vI (k.length : Int)),(50,vI (p : Int))]) [] ?_
        intro _
        refine GS.seq ?_
        refine grd_elim hm (fun ah hm => ?_)
        refine GS.rM (env' := fun _ => [(2,pA ((i 0).x) 0),(3,pA ((i 1).x) 0),(49,vI (k.length : Int)),(50,vI (p : Int)),(63,.bool (!(S_api_Entry.beq H (j.getD p dS_api_Entry))))]) (RunsTo.mkd [(1,{ act := .load 7 0 0 [] }),(3,{ act := .idx 1 p }),(4,{ act := .load 1 p 0 [vI H.Version.Epoch,vI H.Version.N,.bool H.Remove,vI H.Errno,.string H.Name,vI H.Client,vI H.Number] }),(6,{ act := .load 8 0 0 [] }),(8,{ act := .idx 4 p }),(9,{ act := .load 4 p 0 [vI (((j.getD p dS_api_Entry).Version).Epoch),vI (((j.getD p dS_api_Entry).Version).N),.bool ((j.getD p dS_api_Entry).Remove),vI ((j.getD p dS_api_Entry).Errno),.string ((j.getD p dS_api_Entry).Name),vI ((j.getD p dS_api_Entry).Client),vI ((j.getD p dS_api_Entry).Number)] }),(10,{ act := .eq })] [2,3,49,50,63] [1,2,3,4,5,6,7,8] (fun _ => [(i 0).x = (i 0).x,l = l,k.length = (List.map S_api_Entry.row k).length,((p : Int) : Int) = (p : Int),p < k.length,blk l = blk l,offs l + p * 7 = offs l + (p * 7 + 0),(List.map S_api_Entry.row k)[p]? = some [vI H.Version.Epoch,vI H.Version.N,.bool H.Remove,vI H.Errno,.string H.Name,vI H.Client,vI H.Number],(i 1).x = (i 1).x,m = m,j.length = (List.map S_api_Entry.row j).length,((p : Int) : Int) = (p : Int),p < j.length,blk m = blk m,offs m + p * 7 = offs m + (p * 7 + 0),(List.map S_api_Entry.row j)[p]? = some [vI (((j.getD p dS_api_Entry).Version).Epoch),vI (((j.getD p dS_api_Entry).Version).N),.bool ((j.getD p dS_api_Entry).Remove),vI ((j.getD p dS_api_Entry).Errno),.string ((j.getD p dS_api_Entry).Name),vI ((j.getD p dS_api_Entry).Client),vI ((j.getD p dS_api_Entry).Number)]]) (by kernel_rfl) (by kernel_rfl) (fun _ => by kernel_rfl) (fun _ => ⟨rfl,rfl,mlen S_api_Entry.row k,rfl,(drop_lt R),rfl,rfl,map_drop S_api_Entry.row R,rfl,rfl,mlen S_api_Entry.row j,rfl,ah,rfl,rfl,map_at S_api_Entry.row dS_api_Entry ah,trivial⟩)) ?_
        intro _
        refine GS.cond (t := !(S_api_Entry.beq H (j.getD p dS_api_Entry))) rfl rfl (fun aa => ?_) (fun aa => ?_)
        · replace hm := br_t aa hm
          refine GS.seq ?_
          refine GS.tz (fun _ => [(4,.bool false)]) (fun _ => []) [] ?_
          intro _
          have hy := Option.some.inj hm
          subst hy
          refine GS.ret (fn := Tryz.f10) [0] [.bool false] [] rfl Tryz.func10 (by kernel_rfl) trivial (fun w' hs => ?_)
          exact ⟨(),rfl,hs.turnedG (ks := []) rfl rfl⟩
        · replace hm := br_f aa hm
          refine GS.skip ?_
          refine GS.inBlock ?_
          refine GS.tgM (fun _ => [(2,pA ((i 0).x) 0),(3,pA ((i 1).x) 0),(49,vI (k.length : Int)),(50,vI ((p + 1 : Nat) : Int))]) [(0,{ sp := some (vI ((p + 1 : Nat) : Int)) })] (fun _ => [((vI (IntKind.i64.wrap ((p : Int) + 1))) : Value) = vI ((p + 1 : Nat) : Int)]) (fun _ => ⟨natw (drop_lt R) aj,trivial⟩) ?_
          intro _
          refine GS.inLoop ?_
          refine GS.rekey (env' := [(2,pA ((i 0).x) 0),(3,pA ((i 1).x) 0),(49,vI (k.length : Int)),(50,vI ((p + 1 : Nat) : Int))]) (mem' := [(1,r31 l k),(2,r94 e b),(3,r91 f a),(4,r31 m j),(5,r94 g c),(6,r91 h d),(7,.cells ((i 0).x) 28 (kc0 C n.Epoch n.N l k.length A e b.length s f a.length u)),(8,.cells ((i 1).x) 28 (kc0 D o.Epoch o.N m j.length B g c.length v h d.length z))]) [2,3,49,50] [(1,1),(2,2),(3,3),(4,4),(5,5),(6,6),(7,7),(8,8)] (by kernel_rfl) (by kernel_rfl) rfl ?_
          exact ab ⟨J,p + 1⟩ ⟨drop_next R,hm⟩ (Nat.lt_succ_self _)

end Go.Proofs.YtjnbkhnebmlilaaGreat
