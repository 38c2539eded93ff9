/-
 CHAPTER 18r: the functions do what their models say (10).
-/
import Derived.Test.YtjnbkhnebmlilaaE18r
import Derived.Test.YtjnbkhnebmlilaaW18re
import Derived.Test.YtjnbkhnebmlilaaW18rg
import Derived.Test.YtjnbkhnebmlilaaW18rh
import Derived.Test.YtjnbkhnebmlilaaW18ri
set_option linter.unusedVariables false
set_option linter.unusedSimpArgs false
set_option maxRecDepth 100000
set_option maxHeartbeats 8000000
namespace Go.Proofs.Ytjnbkhnebmlilaa
open Go Go.RowKit Sx

theorem w___primary_Machine__Step_4 (F I : Nat) (o p J s K : Int) (k : Option Addr) (C : Nat) (D : List Int) (L M N : Int) (l : Option Addr) (E : Nat) (G : List S_api_Entry) (b : Option Addr) (u : Nat) (q : List S_api_Last) (c : Option Addr) (z : Nat) (r : List S_api_Item) (d : Option Addr) (A m : Nat) (f n : Int) (e : Option Addr) (a : Nat) (j : List Int) (H Y Z U V aa R T Q : Int) (ab : j.length ≤ a) {y : Nat × List Int × (List ByteArray × List Int)} (hm : m___primary_Machine__Step_4 F o p J s K D L M N G q r f n j H Y Z U V aa R T Q = some y) : CallG Try.prog 7 #[pA I 0,.agg ((kc66 Y Z U V aa R T Q)).toArray] (X := (Option Addr × Nat) × (Option Addr × Nat × Option Addr × Nat × Option Addr × Nat)) (fun (x : (Option Addr × Nat) × (Option Addr × Nat × Option Addr × Nat × Option Addr × Nat)) => bif y.1 == 0 then (fun ⟨⟨x0,x1⟩,_⟩ => .agg ((kc9)).toArray : (Option Addr × Nat) × (Option Addr × Nat × Option Addr × Nat × Option Addr × Nat) → Value) x else (fun ⟨_,⟨x0,x1,x2,x3,x4,x5⟩⟩ => .agg ((kc42 x0 x1)).toArray : (Option Addr × Nat) × (Option Addr × Nat × Option Addr × Nat × Option Addr × Nat) → Value) x) [o3 e a j,.cells m 87 (kc56 s o p f n e j.length a),.cells I 69 (kc55 o p J s K k D.length C L M N l G.length E b q.length u c r.length z d A m H)] [r3 k D,r52 l G,r80 b q,r76 c r,.rd d 46 []] (fun (x : (Option Addr × Nat) × (Option Addr × Nat × Option Addr × Nat × Option Addr × Nat)) => bif y.1 == 0 then (fun ⟨⟨x0,x1⟩,_⟩ => [o3 x0 x1 y.2.1,.cells m 87 (kc56 s o p f n x0 y.2.1.length x1),.cells I 69 (kc55 o p J s K k D.length C L M N l G.length E b q.length u c r.length z d A m H)] : (Option Addr × Nat) × (Option Addr × Nat × Option Addr × Nat × Option Addr × Nat) → List Ent) x else (fun ⟨_,⟨x0,x1,x2,x3,x4,x5⟩⟩ => [o9 x2 x3 y.2.2.1,.osl x0 x1 57 46 [(kc74 s K J o p f x2 y.2.2.1.length x3)],o3 x4 x5 y.2.2.2,.cells m 87 (kc56 s o p f n x4 y.2.2.2.length x5),.cells I 69 (kc54 o p J s K k D.length C L M N l G.length E b q.length u c r.length z d A H)] : (Option Addr × Nat) × (Option Addr × Nat × Option Addr × Nat × Option Addr × Nat) → List Ent) x) := by
 intro w hg
 rw [m___primary_Machine__Step_4] at hm
 refine GS.start (S := mayT [o3 e a j,.cells m 87 (kc56 s o p f n e j.length a),.cells I 69 (kc55 o p J s K k D.length C L M N l G.length E b q.length u c r.length z d A m H)] [r3 k D,r52 l G,r80 b q,r76 c r,.rd d 46 []]) (mem := [(1,o3 e a j),(2,.cells m 87 (kc56 s o p f n e j.length a)),(3,.cells I 69 (kc55 o p J s K k D.length C L M N l G.length E b q.length u c r.length z d A m H)),(4,r3 k D),(5,r52 l G),(6,r80 b q),(7,r76 c r),(8,.rd d 46 [])]) Try.func7 rfl Try.ntmps7 (Nat.le_of_ble_eq_true rfl) (hg.start rfl) ?_
 refine GS.conv (env' := [(0,pA I 0),(1,.agg ((kc66 Y Z U V aa R T Q)).toArray)]) rfl rfl ?_
 refine GS.seq ?_
 refine GS.tz (fun B => [(0,pA I 0),(3,pA ((B 0).x) 0),(4,pA ((B 1).x) 0)]) (fun B => [(1,o3 e a j),(2,.cells m 87 (kc56 s o p f n e j.length a)),(3,.cells I 69 (kc55 o p J s K k D.length C L M N l G.length E b q.length u c r.length z d A m H)),(4,r3 k D),(5,r52 l G),(6,r80 b q),(7,r76 c r),(8,.rd d 46 []),(9,.cells ((B 0).x) 57 (kc66 Y Z U V aa R T Q)),(10,.cells ((B 1).x) 60 (kc9))]) [(0,{ act := .new .var,key := some 9 }),(1,{ act := .new .var,key := some 10 })] ?_
 intro B
 refine GS.seq ?_
 refine GS.seq ?_
 refine grd_elim hm (fun g3 hm => ?_)
 refine GS.rM (env' := fun _ => [(0,pA I 0),(3,pA ((B 0).x) 0),(4,pA ((B 1).x) 0),(32,.bool (!(S_api_Pg.beq (S_api_Pg.mk R T) (S_api_Pg.mk o p))))]) (RunsTo.mkd [(6,{ act := .load 3 0 0 [] }),(11,{ act := .load 9 0 0 [] }),(15,{ act := .load 3 0 0 [] }),(17,{ act := .eq }),(19,{ sp := some (.bool false) }),(21,{ act := .load 9 0 0 [] }),(25,{ act := .load 3 0 0 [] }),(26,{ act := .eq })] [0,3,4,32] [1,2,3,4,5,6,7,8,9,10] (fun _ => [I = I,(B 0).x = (B 0).x,I = I,((.bool (!(S_api_Node.beq (S_api_Node.mk U V) (S_api_Node.mk 2 s)))) : Value) = .bool false,(B 0).x = (B 0).x,I = I]) (by kernel_rfl) (by kernel_rfl) (fun _ => by kernel_rfl) (fun _ => ⟨rfl,rfl,rfl,bool_eq (g3),rfl,rfl,trivial⟩)) ?_
 intro _
 refine grd_elim hm (fun g4 hm => ?_)
 refine GS.cond (t := !(S_api_Pg.beq (S_api_Pg.mk R T) (S_api_Pg.mk o p))) rfl rfl (fun h5 => absb h5 (g4)) (fun _ => ?_)
 refine GS.skip ?_
 refine GS.seq ?_
 refine GS.seq ?_
 refine GS.tgM (fun _ => [(0,pA I 0),(3,pA ((B 0).x) 0),(4,pA ((B 1).x) 0),(35,vI 35)]) [(1,{ act := .load 9 0 0 [] })] (fun _ => [(B 0).x = (B 0).x]) (fun _ => ⟨rfl,trivial⟩) ?_
 intro _
 refine GS.block ?_
 refine GS.seq ?_
 refine GS.tzM (fun _ => [(0,pA I 0),(3,pA ((B 0).x) 0),(4,pA ((B 1).x) 0),(35,vI 35),(36,.bool false)]) [] ?_
 intro _
 refine GS.cond (t := false) rfl rfl (fun hf => by cases hf) (fun _ => ?_)
 refine GS.seq ?_
 refine GS.seq ?_
 refine GS.tzM (fun _ => [(0,pA I 0),(3,pA ((B 0).x) 0),(4,pA ((B 1).x) 0),(35,vI 35),(41,.bool false)]) [] ?_
 intro _
 refine GS.cond (t := false) rfl rfl (fun hf => by cases hf) (fun _ => ?_)
 refine GS.tzM (fun _ => [(0,pA I 0),(3,pA ((B 0).x) 0),(4,pA ((B 1).x) 0),(41,.bool true)]) [] ?_
 intro _
 refine GS.cond (t := true) rfl rfl (fun _ => ?_) (fun hf => by cases hf)
 refine GS.seq ?_
 refine bnd_elim hm (fun W ah hm => ?_)
 refine br_elim hm (fun ag hm => ?_) (fun ag hm => ?_)
 ·skip
  refine GS.open_ ?_
  refine GR.ru (i := 0) 2 (env' := fun _ => [(4,pA ((B 1).x) 0),(44,pA I 0),(45,.agg ((kc66 Y Z U V aa R T Q)).toArray)]) (mem' := fun _ => [(1,o3 e a j),(2,.cells m 87 (kc56 s o p f n e j.length a)),(3,.cells I 69 (kc55 o p J s K k D.length C L M N l G.length E b q.length u c r.length z d A m H)),(4,r3 k D),(5,r52 l G),(6,r80 b q),(7,r76 c r),(8,.rd d 46 []),(10,.cells ((B 1).x) 60 (kc9))]) (by kernel_rfl) (RunsTo.mk [(1,{ act := .load 9 0 0 [] })] [4,44,45] [1,2,3,4,5,6,7,8,10] (fun _ => [(B 0).x = (B 0).x]) (fun _ => by kernel_rfl) (fun _ => ⟨rfl,trivial⟩)) ?_
  intro _
  refine GR.callG (X := (Option Addr × Nat) × (Option Addr × Nat × Option Addr × Nat × Option Addr × Nat)) (i := 2) (g := 13) (args := #[pA I 0,.agg ((kc66 Y Z U V aa R T Q)).toArray]) (v := fun ⟨⟨O,P⟩,_⟩ => .agg ((kc9)).toArray) (own := [o3 e a j,.cells m 87 (kc56 s o p f n e j.length a),.cells I 69 (kc55 o p J s K k D.length C L M N l G.length E b q.length u c r.length z d A m H)]) (ro := [r3 k D,r52 l G,r80 b q,r76 c r,.rd d 46 []]) (es' := fun ⟨⟨O,P⟩,_⟩ => [o3 O P W.2.1,.cells m 87 (kc56 s o p f n O W.2.1.length P),.cells I 69 (kc55 o p J s K k D.length C L M N l G.length E b q.length u c r.length z d A m H)]) (mem' := fun ⟨⟨O,P⟩,_⟩ => [(2,.cells m 87 (kc56 s o p f n O W.2.1.length P)),(3,.cells I 69 (kc55 o p J s K k D.length C L M N l G.length E b q.length u c r.length z d A m H)),(4,r3 k D),(5,r52 l G),(6,r80 b q),(7,r76 c r),(8,.rd d 46 []),(10,.cells ((B 1).x) 60 (kc9)),(11,o3 O P W.2.1)]) (env' := fun ⟨⟨O,P⟩,_⟩ => [(4,pA ((B 1).x) 0),(46,.agg ((kc9)).toArray)]) [1,2,3] [11,2,3] [4,46] [2,3,4,5,6,7,8,10,11] false (by kernel_rfl) (by kernel_rfl) (by kernel_rfl) (by kernel_rfl) (by kernel_rfl) (fun _ => rfl) (fun _ _ => rfl) ⟨(.inl ⟨4,_,rfl,rfl,Cov.refl _,fun h => by cases h⟩),(.inl ⟨5,_,rfl,rfl,Cov.refl _,fun h => by cases h⟩),(.inl ⟨6,_,rfl,rfl,Cov.refl _,fun h => by cases h⟩),(.inl ⟨7,_,rfl,rfl,Cov.refl _,fun h => by cases h⟩),(.inl ⟨8,_,rfl,rfl,Cov.refl _,fun h => by cases h⟩),trivial⟩ (by rintro ⟨⟨O,P⟩,_⟩; kernel_rfl) (by rintro ⟨⟨O,P⟩,_⟩; kernel_rfl) ((by have h1 := CallG.fT ag (w___primary_Machine__acked_2 F I o p J s K k C D L M N l E G b u q c z r d A m f n e a j H Y Z U V aa R T Q ab ah); exact h1)) ?_
  rintro ⟨⟨O,P⟩,_⟩
  refine GR.rM (i := 3) 1 (env' := fun _ => [(4,pA ((B 1).x) 0)]) (by kernel_rfl) (RunsTo.mk [(3,{ act := .store 0 0 [],key := some 10 })] [4] [2,3,4,5,6,7,8,10,11] (fun _ => [(B 1).x = (B 1).x,oC (.agg ((kc9)).toArray)]) (fun _ => by kernel_rfl) (fun _ => ⟨rfl,rfl,trivial⟩)) ?_
  intro _
  refine GR.dn (by kernel_rfl) ?_
  have hy := Option.some.inj hm
  subst hy
  refine GS.ret (fn := Try.f7) [10] [.agg ((kc9)).toArray] [(B 1).x = (B 1).x] rfl Try.func7 (by kernel_rfl) ⟨rfl,trivial⟩ (fun w' hs => ?_)
  exact ⟨⟨⟨O,P⟩,⟨none,0,none,0,none,0⟩⟩,rfl,hs.turnedG (ks := [11,2,3]) rfl rfl⟩
 ·skip
  refine GS.open_ ?_
  refine GR.ru (i := 0) 2 (env' := fun _ => [(4,pA ((B 1).x) 0),(44,pA I 0),(45,.agg ((kc66 Y Z U V aa R T Q)).toArray)]) (mem' := fun _ => [(1,o3 e a j),(2,.cells m 87 (kc56 s o p f n e j.length a)),(3,.cells I 69 (kc55 o p J s K k D.length C L M N l G.length E b q.length u c r.length z d A m H)),(4,r3 k D),(5,r52 l G),(6,r80 b q),(7,r76 c r),(8,.rd d 46 []),(10,.cells ((B 1).x) 60 (kc9))]) (by kernel_rfl) (RunsTo.mk [(1,{ act := .load 9 0 0 [] })] [4,44,45] [1,2,3,4,5,6,7,8,10] (fun _ => [(B 0).x = (B 0).x]) (fun _ => by kernel_rfl) (fun _ => ⟨rfl,trivial⟩)) ?_
  intro _
  refine GR.callG (X := (Option Addr × Nat) × (Option Addr × Nat × Option Addr × Nat × Option Addr × Nat)) (i := 2) (g := 13) (args := #[pA I 0,.agg ((kc66 Y Z U V aa R T Q)).toArray]) (v := fun ⟨_,⟨O,P,ac,ad,ae,af⟩⟩ => .agg ((kc42 O P)).toArray) (own := [o3 e a j,.cells m 87 (kc56 s o p f n e j.length a),.cells I 69 (kc55 o p J s K k D.length C L M N l G.length E b q.length u c r.length z d A m H)]) (ro := [r3 k D,r52 l G,r80 b q,r76 c r,.rd d 46 []]) (es' := fun ⟨_,⟨O,P,ac,ad,ae,af⟩⟩ => [o9 ac ad W.2.2.1,.osl O P 57 46 [(kc74 s K J o p f ac W.2.2.1.length ad)],o3 ae af W.2.2.2,.cells m 87 (kc56 s o p f n ae W.2.2.2.length af),.cells I 69 (kc54 o p J s K k D.length C L M N l G.length E b q.length u c r.length z d A H)]) (mem' := fun ⟨_,⟨O,P,ac,ad,ae,af⟩⟩ => [(2,.cells m 87 (kc56 s o p f n ae W.2.2.2.length af)),(3,.cells I 69 (kc54 o p J s K k D.length C L M N l G.length E b q.length u c r.length z d A H)),(4,r3 k D),(5,r52 l G),(6,r80 b q),(7,r76 c r),(8,.rd d 46 []),(10,.cells ((B 1).x) 60 (kc9)),(11,.osl O P 57 46 [(kc74 s K J o p f ac W.2.2.1.length ad)]),(12,o9 ac ad W.2.2.1),(13,o3 ae af W.2.2.2)]) (env' := fun ⟨_,⟨O,P,ac,ad,ae,af⟩⟩ => [(4,pA ((B 1).x) 0),(46,.agg ((kc42 O P)).toArray)]) [1,2,3] [12,11,13,2,3] [4,46] [2,3,4,5,6,7,8,10,11,12,13] false (by kernel_rfl) (by kernel_rfl) (by kernel_rfl) (by kernel_rfl) (by kernel_rfl) (fun _ => rfl) (fun _ _ => rfl) ⟨(.inl ⟨4,_,rfl,rfl,Cov.refl _,fun h => by cases h⟩),(.inl ⟨5,_,rfl,rfl,Cov.refl _,fun h => by cases h⟩),(.inl ⟨6,_,rfl,rfl,Cov.refl _,fun h => by cases h⟩),(.inl ⟨7,_,rfl,rfl,Cov.refl _,fun h => by cases h⟩),(.inl ⟨8,_,rfl,rfl,Cov.refl _,fun h => by cases h⟩),trivial⟩ (by rintro ⟨_,⟨O,P,ac,ad,ae,af⟩⟩; kernel_rfl) (by rintro ⟨_,⟨O,P,ac,ad,ae,af⟩⟩; kernel_rfl) ((by have h1 := CallG.fF ag (w___primary_Machine__acked_2 F I o p J s K k C D L M N l E G b u q c z r d A m f n e a j H Y Z U V aa R T Q ab ah); exact h1)) ?_
  rintro ⟨_,⟨O,P,ac,ad,ae,af⟩⟩
  refine GR.ru (i := 3) 1 (env' := fun _ => [(4,pA ((B 1).x) 0)]) (mem' := fun _ => [(2,.cells m 87 (kc56 s o p f n ae W.2.2.2.length af)),(3,.cells I 69 (kc54 o p J s K k D.length C L M N l G.length E b q.length u c r.length z d A H)),(4,r3 k D),(5,r52 l G),(6,r80 b q),(7,r76 c r),(8,.rd d 46 []),(10,.cells ((B 1).x) 60 (kc42 O P)),(11,.osl O P 57 46 [(kc74 s K J o p f ac W.2.2.1.length ad)]),(12,o9 ac ad W.2.2.1),(13,o3 ae af W.2.2.2)]) (by kernel_rfl) (RunsTo.mk [(3,{ act := .store 0 0 [],key := some 10 })] [4] [2,3,4,5,6,7,8,10,11,12,13] (fun _ => [(B 1).x = (B 1).x,oC (.agg ((kc42 O P)).toArray)]) (fun _ => by kernel_rfl) (fun _ => ⟨rfl,rfl,trivial⟩)) ?_
  intro _
  refine GR.dn (by kernel_rfl) ?_
  have hy := Option.some.inj hm
  subst hy
  refine GS.ret (fn := Try.f7) [10] [.agg ((kc42 O P)).toArray] [(B 1).x = (B 1).x] rfl Try.func7 (by kernel_rfl) ⟨rfl,trivial⟩ (fun w' hs => ?_)
  exact ⟨⟨⟨none,0⟩,⟨O,P,ac,ad,ae,af⟩⟩,rfl,hs.turnedG (ks := [12,11,13,2,3]) rfl rfl⟩

theorem w___primary_Machine__Idle_4 (F z : Nat) (p q r s t : Int) (d : Option Addr) (k : Nat) (n : List Int) (u v x : Int) (e : Option Addr) (l : Nat) (o : List S_api_Entry) (a : Option Addr) (f : Nat) (i : List S_api_Last) (b : Option Addr) (g : Nat) (j : List S_api_Item) (c : Option Addr) (h : Nat) (m : Int) {y : Unit} (hm : m___primary_Machine__Idle_4 F p q r s t n u v x o i j m = some y) : CallG Try.prog 8 #[pA z 0] (X := Unit) (fun (_ : Unit) => .bool true) [] [r3 d n,r52 e o,r80 a i,r76 b j,.rd c 46 [],.rd (some ⟨z,0,none⟩) 17 [(kc54 p q r s t d n.length k u v x e o.length l a i.length f b j.length g c h m)]] (fun (_ : Unit) => []) := by
 intro w hg
 rw [m___primary_Machine__Idle_4] at hm
 refine GS.start (S := mayT [] [r3 d n,r52 e o,r80 a i,r76 b j,.rd c 46 [],.rd (some ⟨z,0,none⟩) 17 [(kc54 p q r s t d n.length k u v x e o.length l a i.length f b j.length g c h m)]]) (mem := [(1,r3 d n),(2,r52 e o),(3,r80 a i),(4,r76 b j),(5,.rd c 46 []),(6,.rd (some ⟨z,0,none⟩) 17 [(kc54 p q r s t d n.length k u v x e o.length l a i.length f b j.length g c h m)])]) Try.func8 rfl Try.ntmps8 (Nat.le_of_ble_eq_true rfl) (hg.start rfl) ?_
 refine GS.conv (env' := [(0,pA z 0)]) rfl rfl ?_
 refine GS.seq ?_
 refine GS.tzM (fun _ => [(0,pA z 0)]) [] ?_
 intro _
 refine GS.seq ?_
 refine GS.tg (fun _ => [(2,.bool true)]) (fun _ => []) [(6,{ act := .load 6 0 16 [vI p,vI q,vI r,vI s,vI t,.slice d n.length k,vI u,vI v,vI x,.slice e o.length l,.slice a i.length f,.slice b j.length g,.slice c 0 h,.pointer none,.bool false,vI m,.bool true] }),(12,{ act := .load 6 0 13 [vI p,vI q,vI r,vI s,vI t,.slice d n.length k,vI u,vI v,vI x,.slice e o.length l,.slice a i.length f,.slice b j.length g,.slice c 0 h,.pointer none,.bool false,vI m,.bool true] })] (fun _ => [z = blk (some ⟨z,0,none⟩),16 = offs (some ⟨z,0,none⟩) + (0 * 17 + 16),([(kc54 p q r s t d n.length k u v x e o.length l a i.length f b j.length g c h m)] : List (List Value))[0]? = some [vI p,vI q,vI r,vI s,vI t,.slice d n.length k,vI u,vI v,vI x,.slice e o.length l,.slice a i.length f,.slice b j.length g,.slice c 0 h,.pointer none,.bool false,vI m,.bool true],z = blk (some ⟨z,0,none⟩),13 = offs (some ⟨z,0,none⟩) + (0 * 17 + 13),([(kc54 p q r s t d n.length k u v x e o.length l a i.length f b j.length g c h m)] : List (List Value))[0]? = some [vI p,vI q,vI r,vI s,vI t,.slice d n.length k,vI u,vI v,vI x,.slice e o.length l,.slice a i.length f,.slice b j.length g,.slice c 0 h,.pointer none,.bool false,vI m,.bool true]]) (fun _ => ⟨rfl,rfl,rfl,rfl,rfl,rfl,trivial⟩) ?_
 intro _
 have hy := Option.some.inj hm
 subst hy
 refine GS.ret (fn := Try.f8) [0] [.bool true] [] rfl Try.func8 (by kernel_rfl) trivial (fun w' hs => ?_)
 exact ⟨(),rfl,hs.turnedG (ks := []) rfl rfl⟩

theorem w_slices_IndexFunc___api_Msg_api_Msg__3 (F : Nat) (a : Option Addr) (b a1c0b : Nat) (a1c0_4 a1c0_7 a1c0_8 a1c0_10 : Int) {y : Unit} (hm : m_slices_IndexFunc___api_Msg_api_Msg__3 F a1c0_4 a1c0_7 a1c0_8 a1c0_10 = some y) : CallG Try.prog 32 #[.slice a 0 b,.func (.func 22) #[] #[pA a1c0b 0]] (X := Unit) (fun (_ : Unit) => vI (-1)) [] [.rd a 46 [],.rd (some ⟨a1c0b,0,none⟩) 46 [(kc51 a1c0_4 a1c0_7 a1c0_8 a1c0_10)]] (fun (_ : Unit) => []) := by
 intro w hg
 rw [m_slices_IndexFunc___api_Msg_api_Msg__3] at hm
 refine GS.start (S := mayT [] [.rd a 46 [],.rd (some ⟨a1c0b,0,none⟩) 46 [(kc51 a1c0_4 a1c0_7 a1c0_8 a1c0_10)]]) (mem := [(1,.rd a 46 []),(2,.rd (some ⟨a1c0b,0,none⟩) 46 [(kc51 a1c0_4 a1c0_7 a1c0_8 a1c0_10)])]) Try.func32 rfl Try.ntmps32 (Nat.le_of_ble_eq_true rfl) (hg.start rfl) ?_
 refine GS.conv (env' := [(0,.slice a 0 b),(1,.func (.func 22) #[] #[pA a1c0b 0])]) rfl rfl ?_
 refine GS.seq ?_
 refine GS.tzM (fun _ => [(0,.slice a 0 b),(1,.func (.func 22) #[] #[pA a1c0b 0])]) [] ?_
 intro _
 refine GS.seq ?_
 refine GS.seq ?_
 refine GS.tzM (fun _ => [(0,.slice a 0 b),(1,.func (.func 22) #[] #[pA a1c0b 0]),(7,vI 0),(8,vI 0)]) [] ?_
 intro _
 refine GS.block ?_
 refine GS.loop ?_
 refine GS.seq ?_
 refine GS.tzM (fun _ => [(0,.slice a 0 b),(1,.func (.func 22) #[] #[pA a1c0b 0]),(7,vI 0),(8,vI 0),(9,.bool false)]) [] ?_
 intro _
 refine GS.seq ?_
 refine GS.cond (t := false) rfl rfl (fun hf => by cases hf) (fun _ => ?_)
 refine GS.exit rfl ?_
 refine GS.seq ?_
 refine GS.tz (fun _ => [(4,vI (-1))]) (fun _ => []) [] ?_
 intro _
 have hy := Option.some.inj hm
 subst hy
 refine GS.ret (fn := Try.f32) [0] [vI (-1)] [] rfl Try.func32 (by kernel_rfl) trivial (fun w' hs => ?_)
 exact ⟨(),rfl,hs.turnedG (ks := []) rfl rfl⟩

theorem w_slices_ContainsFunc___api_Msg_api_Msg__3 (F : Nat) (a : Option Addr) (b a1c0b : Nat) (a1c0_4 a1c0_7 a1c0_8 a1c0_10 : Int) {y : Unit} (hm : m_slices_ContainsFunc___api_Msg_api_Msg__3 F a1c0_4 a1c0_7 a1c0_8 a1c0_10 = some y) : CallG Try.prog 25 #[.slice a 0 b,.func (.func 22) #[] #[pA a1c0b 0]] (X := Unit) (fun (_ : Unit) => .bool false) [] [.rd a 46 [],.rd (some ⟨a1c0b,0,none⟩) 46 [(kc51 a1c0_4 a1c0_7 a1c0_8 a1c0_10)]] (fun (_ : Unit) => []) := by
 intro w hg
 rw [m_slices_ContainsFunc___api_Msg_api_Msg__3] at hm
 refine GS.start (S := mayT [] [.rd a 46 [],.rd (some ⟨a1c0b,0,none⟩) 46 [(kc51 a1c0_4 a1c0_7 a1c0_8 a1c0_10)]]) (mem := [(1,.rd a 46 []),(2,.rd (some ⟨a1c0b,0,none⟩) 46 [(kc51 a1c0_4 a1c0_7 a1c0_8 a1c0_10)])]) Try.func25 rfl Try.ntmps25 (Nat.le_of_ble_eq_true rfl) (hg.start rfl) ?_
 refine GS.conv (env' := [(0,.slice a 0 b),(1,.func (.func 22) #[] #[pA a1c0b 0])]) rfl rfl ?_
 refine GS.seq ?_
 refine GS.tzM (fun _ => [(0,.slice a 0 b),(1,.func (.func 22) #[] #[pA a1c0b 0])]) [] ?_
 intro _
 refine GS.seq ?_
 refine bnd_elim hm (fun y3 e4 hm => ?_)
 refine GS.tg (fun _ => [(4,.bool false)]) (fun _ => []) [(2,{ act := .call [1,2] (vI (-1)) })] (fun _ => [CallOK Try.prog 32 #[.slice a 0 b,.func (.func 22) #[] #[pA a1c0b 0]] (vI (-1)) [some (.rd a 46 []),some (.rd (some ⟨a1c0b,0,none⟩) 46 [(kc51 a1c0_4 a1c0_7 a1c0_8 a1c0_10)])]]) (fun _ => ⟨(by have h1 := w_slices_IndexFunc___api_Msg_api_Msg__3 F a b a1c0b a1c0_4 a1c0_7 a1c0_8 a1c0_10 e4; exact h1.ok ⟨(.inl ⟨.rd a 46 [],.head _,Cov.refl _⟩),(.inl ⟨.rd (some ⟨a1c0b,0,none⟩) 46 [(kc51 a1c0_4 a1c0_7 a1c0_8 a1c0_10)],(.tail _ (.head _)),Cov.refl _⟩),trivial⟩),trivial⟩) ?_
 intro _
 have hy := Option.some.inj hm
 subst hy
 refine GS.ret (fn := Try.f25) [0] [.bool false] [] rfl Try.func25 (by kernel_rfl) trivial (fun w' hs => ?_)
 exact ⟨(),rfl,hs.turnedG (ks := []) rfl rfl⟩

theorem w___primary_Machine__request_3 (F C : Nat) (e j G k H : Int) (c : Option Addr) (D : Nat) (A : List Int) (I J K : Int) (d : Option Addr) (E : Nat) (B : List S_api_Entry) (a : Option Addr) (u : Nat) (m : List S_api_Last) (b : Option Addr) (z : Nat) (n : List S_api_Item) (o : Option Addr) (q : Nat) (L r : Int) {y : List S_api_Msg_n × Int × List Int} (hm : m___primary_Machine__request_3 F e j G k H A I J K B m n L r = some y) : CallG Try.prog 12 #[pA C 0,.agg ((kc51 k e j r)).toArray] (X := Option Addr × Nat × Option Addr × Nat × Nat × Option Addr × Nat) (fun ⟨x0,x1,x2,x3,x4,x5,x6⟩ => .agg ((kc63 x0 y.1.length x1)).toArray) [.osl o q 57 46 [],.cells C 69 (kc54 e j G k H c A.length D I J K d B.length E a m.length u b n.length z o q L)] [r3 c A,r52 d B,r80 a m,r76 b n] (fun ⟨x0,x1,x2,x3,x4,x5,x6⟩ => [o57 x0 x1 y.1,.osl x2 x3 57 46 [],o3 x5 x6 y.2.2,.cells x4 87 (kc56 k e j r y.2.1 x5 y.2.2.length x6),.cells C 69 (kc55 e j G k H c A.length D I J K d B.length E a m.length u b n.length z x2 x3 x4 y.2.1)]) := by
 intro w hg
 rw [m___primary_Machine__request_3] at hm
 refine GS.start (S := mayT [.osl o q 57 46 [],.cells C 69 (kc54 e j G k H c A.length D I J K d B.length E a m.length u b n.length z o q L)] [r3 c A,r52 d B,r80 a m,r76 b n]) (mem := [(1,.osl o q 57 46 []),(2,.cells C 69 (kc54 e j G k H c A.length D I J K d B.length E a m.length u b n.length z o q L)),(3,r3 c A),(4,r52 d B),(5,r80 a m),(6,r76 b n)]) Try.func12 rfl Try.ntmps12 (Nat.le_of_ble_eq_true rfl) (hg.start rfl) ?_
 refine GS.conv (env' := [(0,pA C 0),(1,.agg ((kc51 k e j r)).toArray)]) rfl rfl ?_
 refine GS.seq ?_
 refine GS.tz (fun s => [(0,pA C 0),(3,pA ((s 0).x) 0),(4,pA ((s 1).x) 0)]) (fun s => [(1,.osl o q 57 46 []),(2,.cells C 69 (kc54 e j G k H c A.length D I J K d B.length E a m.length u b n.length z o q L)),(3,r3 c A),(4,r52 d B),(5,r80 a m),(6,r76 b n),(7,.cells ((s 0).x) 57 (kc51 k e j r)),(8,.cells ((s 1).x) 60 (kc9))]) [(0,{ act := .new .var,key := some 7 }),(1,{ act := .new .var,key := some 8 })] ?_
 intro s
 refine GS.seq ?_
 refine GS.tzM (fun _ => [(0,pA C 0),(3,pA ((s 0).x) 0),(4,pA ((s 1).x) 0),(5,.func (.func 22) #[] #[pA ((s 0).x) 0])]) [] ?_
 intro _
 refine GS.seq ?_
 refine GS.block ?_
 refine GS.seq ?_
 refine GS.tgM (fun _ => [(0,pA C 0),(3,pA ((s 0).x) 0),(4,pA ((s 1).x) 0),(5,.func (.func 22) #[] #[pA ((s 0).x) 0]),(7,.bool false)]) [(3,{ act := .load 2 0 0 [] })] (fun _ => [C = C]) (fun _ => ⟨rfl,trivial⟩) ?_
 intro _
 refine GS.cond (t := false) rfl rfl (fun hf => by cases hf) (fun _ => ?_)
 refine GS.seq ?_
 refine GS.seq ?_
 refine GS.rM (env' := fun _ => [(0,pA C 0),(3,pA ((s 0).x) 0),(4,pA ((s 1).x) 0),(5,.func (.func 22) #[] #[pA ((s 0).x) 0]),(20,.bool false)]) (RunsTo.mkd [(3,{ act := .load 2 0 0 [] })] [0,3,4,5,20] [1,2,3,4,5,6,7,8] (fun _ => [C = C]) (by kernel_rfl) (by kernel_rfl) (fun _ => by kernel_rfl) (fun _ => ⟨rfl,trivial⟩)) ?_
 intro _
 refine GS.cond (t := false) rfl rfl (fun hf => by cases hf) (fun _ => ?_)
 refine bnd_elim hm (fun y6 e7 hm => ?_)
 refine GS.tgM (fun _ => [(0,pA C 0),(3,pA ((s 0).x) 0),(4,pA ((s 1).x) 0),(20,.bool false)]) [(3,{ act := .load 2 0 0 [] }),(5,{ act := .call [1,7] (.bool false) })] (fun _ => [C = C,CallOK Try.prog 25 #[.slice o 0 q,.func (.func 22) #[] #[pA ((s 0).x) 0]] (.bool false) [some (.osl o q 57 46 []),some (.cells ((s 0).x) 57 (kc51 k e j r))]]) (fun _ => ⟨rfl,(by have h1 := w_slices_ContainsFunc___api_Msg_api_Msg__3 F o q (s 0).x k e j r e7; exact h1.ok ⟨(.inl ⟨.osl o q 57 46 [],.head _,Cov.osl_rd⟩),(.inl ⟨.cells ((s 0).x) 57 (kc51 k e j r),(.tail _ (.head _)),Cov.cells_rd⟩),trivial⟩),trivial⟩) ?_
 intro _
 refine GS.cond (t := false) rfl rfl (fun hf => by cases hf) (fun _ => ?_)
 refine GS.skip ?_
 refine GS.inBlock ?_
 refine GS.seq ?_
 refine bnd_elim hm (fun y9 V hm => ?_)
 refine GS.tgM (fun _ => [(0,pA C 0),(3,pA ((s 0).x) 0),(4,pA ((s 1).x) 0)]) [(2,{ act := .load 7 0 0 [] }),(3,{ act := .call [] (.slice none 0 0) }),(6,{ act := .store 0 0 [],key := some 7 })] (fun _ => [(s 0).x = (s 0).x,CallOK Try.prog 26 #[.slice none 0 0] (.slice none 0 0) [],(s 0).x = (s 0).x,oC (.slice none 0 0)]) (fun _ => ⟨rfl,(by have h1 := w_slices_Clone___byte_byte__2 F  V; exact h1.ok trivial),rfl,rfl,trivial⟩) ?_
 intro _
 refine GS.seq ?_
 refine GS.region (env' := fun l => [(0,pA C 0),(4,pA ((s 1).x) 0)]) (mem' := fun l => [(1,.osl ((l 7).ob) ((l 7).cap) 57 46 (([] : List (List Value)) ++ ([(kc51 k e j r)] : List (List Value)))),(2,.cells C 69 (kc52 e j G k H c A.length D I J K d B.length E a m.length u b n.length z ((l 7).ob) ((l 7).cap) L)),(3,r3 c A),(4,r52 d B),(5,r80 a m),(6,r76 b n),(8,.cells ((s 1).x) 60 (kc9))]) (RunsTo.mkd [(4,{ act := .load 2 0 0 [] }),(5,{ act := .load 7 0 0 [] }),(6,{ act := .new (.row 1 46),key := some 9 }),(7,{ act := .app (some 9),key := some 1,spf := some (fun f => .slice (f.ob) 1 (f.cap)) }),(10,{ act := .store 0 0 [],key := some 2 })] [0,4] [1,2,3,4,5,6,8] (fun l => [C = C,(s 0).x = (s 0).x,(some (Addr.mk (l 6).x 0 none)) = (some (Addr.mk (l 6).x 0 none)),1 = ([(kc51 k e j r)] : List (List Value)).length,o = o,q = q,0 = ([] : List (List Value)).length,(([] : List (List Value)).length + ([(kc51 k e j r)] : List (List Value)).length) * (552 + 1) ≤ 70368744177664,([(kc51 k e j r)] : List (List Value)).flatten.all Value.oneCell' = true,((.slice ((l 7).ob) (0 + ([(kc51 k e j r)] : List (List Value)).length) ((l 7).cap)) : Value) = .slice ((l 7).ob) 1 ((l 7).cap),C = C,oC (.slice ((l 7).ob) 1 ((l 7).cap))]) (by kernel_rfl) (by kernel_rfl) (fun l => by kernel_rfl) (fun l => ⟨rfl,rfl,rfl,rfl,rfl,rfl,rfl,(show (0 + 1) * (552 + 1) ≤ 70368744177664 by decide),rfl,rfl,rfl,rfl,trivial⟩)) ?_
 intro l
 refine GS.conv (mem' := [(1,.osl ((l 7).ob) ((l 7).cap) 57 46 [(kc51 k e j r)]),(2,.cells C 69 (kc52 e j G k H c A.length D I J K d B.length E a m.length u b n.length z ((l 7).ob) ((l 7).cap) L)),(3,r3 c A),(4,r52 d B),(5,r80 a m),(6,r76 b n),(8,.cells ((s 1).x) 60 (kc9))]) rfl (congrArg (fun rr : List (List Value) => ([(1,.osl ((l 7).ob) ((l 7).cap) 57 46 rr),(2,.cells C 69 (kc52 e j G k H c A.length D I J K d B.length E a m.length u b n.length z ((l 7).ob) ((l 7).cap) L)),(3,r3 c A),(4,r52 d B),(5,r80 a m),(6,r76 b n),(8,.cells ((s 1).x) 60 (kc9))] : List (Nat × Ent))) (show ([] : List (List Value)) ++ ([(kc51 k e j r)] : List (List Value)) = ([(kc51 k e j r)] : List (List Value)) from rfl)) ?_
 refine GS.seq ?_
 refine GS.know (p := ((l 7).ob).isNone = false) (fun w hw => ne_osl (hw.ok 1 _ rfl)) (fun Z => ?_)
 refine GS.know (p := 1 ≤ (l 7).cap) (fun w hw => (hw.ok 1 _ rfl).1.1) (fun W => ?_)
 refine bnd_elim hm (fun M Y hm => ?_)
 refine GS.open_ ?_
 refine GR.rM (i := 0) 2 (env' := fun _ => [(4,pA ((s 1).x) 0),(60,pA C 0),(61,.agg ((kc9)).toArray)]) (by kernel_rfl) (RunsTo.mk [] [4,60,61] [1,2,3,4,5,6,8] (fun _ => []) (fun _ => by kernel_rfl) (fun _ => trivial)) ?_
 intro _
 refine GR.callG (X := Option Addr × Nat × Option Addr × Nat × Nat × Option Addr × Nat) (i := 2) (g := 27) (args := #[pA C 0,.agg ((kc9)).toArray]) (v := fun ⟨N,O,P,Q,R,T,U⟩ => .agg ((kc63 N M.1.length O)).toArray) (own := [.osl ((l 7).ob) ((l 7).cap) 57 46 [(kc51 k e j r)],.cells C 69 (kc52 e j G k H c A.length D I J K d B.length E a m.length u b n.length z ((l 7).ob) ((l 7).cap) L)]) (ro := [r3 c A,r52 d B,r80 a m,r76 b n]) (es' := fun ⟨N,O,P,Q,R,T,U⟩ => [o57 N O M.1,.osl P Q 57 46 [],o3 T U M.2.2,.cells R 87 (kc56 k e j r M.2.1 T M.2.2.length U),.cells C 69 (kc55 e j G k H c A.length D I J K d B.length E a m.length u b n.length z P Q R M.2.1)]) (mem' := fun ⟨N,O,P,Q,R,T,U⟩ => [(2,.cells C 69 (kc55 e j G k H c A.length D I J K d B.length E a m.length u b n.length z P Q R M.2.1)),(3,r3 c A),(4,r52 d B),(5,r80 a m),(6,r76 b n),(8,.cells ((s 1).x) 60 (kc9)),(10,o57 N O M.1),(11,.osl P Q 57 46 []),(12,.cells R 87 (kc56 k e j r M.2.1 T M.2.2.length U)),(13,o3 T U M.2.2)]) (env' := fun ⟨N,O,P,Q,R,T,U⟩ => [(4,pA ((s 1).x) 0),(62,.agg ((kc63 N M.1.length O)).toArray)]) [1,2] [10,11,13,12,2] [4,62] [2,3,4,5,6,8,10,11,12,13] false (by kernel_rfl) (by kernel_rfl) (by kernel_rfl) (by kernel_rfl) (by kernel_rfl) (fun _ => rfl) (fun _ _ => rfl) ⟨(.inl ⟨3,_,rfl,rfl,Cov.refl _,fun h => by cases h⟩),(.inl ⟨4,_,rfl,rfl,Cov.refl _,fun h => by cases h⟩),(.inl ⟨5,_,rfl,rfl,Cov.refl _,fun h => by cases h⟩),(.inl ⟨6,_,rfl,rfl,Cov.refl _,fun h => by cases h⟩),trivial⟩ (by rintro ⟨N,O,P,Q,R,T,U⟩; kernel_rfl) (by rintro ⟨N,O,P,Q,R,T,U⟩; kernel_rfl) ((by have h1 := w___primary_Machine__begin_3 F C e j G k H c D A I J K d E B a u m b z n ((l 7).ob) ((l 7).cap) r L 0 W Y; exact h1)) ?_
 rintro ⟨N,O,P,Q,R,T,U⟩
 refine GR.ru (i := 3) 1 (env' := fun _ => [(4,pA ((s 1).x) 0)]) (mem' := fun _ => [(2,.cells C 69 (kc55 e j G k H c A.length D I J K d B.length E a m.length u b n.length z P Q R M.2.1)),(3,r3 c A),(4,r52 d B),(5,r80 a m),(6,r76 b n),(8,.cells ((s 1).x) 60 (kc63 N M.1.length O)),(10,o57 N O M.1),(11,.osl P Q 57 46 []),(12,.cells R 87 (kc56 k e j r M.2.1 T M.2.2.length U)),(13,o3 T U M.2.2)]) (by kernel_rfl) (RunsTo.mk [(3,{ act := .store 0 0 [],key := some 8 })] [4] [2,3,4,5,6,8,10,11,12,13] (fun _ => [(s 1).x = (s 1).x,oC (.agg ((kc63 N M.1.length O)).toArray)]) (fun _ => by kernel_rfl) (fun _ => ⟨rfl,rfl,trivial⟩)) ?_
 intro _
 refine GR.dn (by kernel_rfl) ?_
 have hy := Option.some.inj hm
 subst hy
 refine GS.ret (fn := Try.f12) [8] [.agg ((kc63 N M.1.length O)).toArray] [(s 1).x = (s 1).x] rfl Try.func12 (by kernel_rfl) ⟨rfl,trivial⟩ (fun w' hs => ?_)
 exact ⟨⟨N,O,P,Q,R,T,U⟩,rfl,hs.turnedG (ks := [10,11,13,12,2]) rfl rfl⟩

theorem w___primary_Machine__Step_5 (F A : Nat) (l m C n D : Int) (c : Option Addr) (u : Nat) (r : List Int) (E G H : Int) (d : Option Addr) (z : Nat) (s : List S_api_Entry) (a : Option Addr) (o : Nat) (e : List S_api_Last) (b : Option Addr) (p : Nat) (f : List S_api_Item) (j : Option Addr) (k : Nat) (I B : Int) {y : List S_api_Msg_n × Int × List Int} (hm : m___primary_Machine__Step_5 F l m C n D r E G H s e f I B = some y) : CallG Try.prog 7 #[pA A 0,.agg ((kc51 n l m B)).toArray] (X := Option Addr × Nat × Option Addr × Nat × Nat × Option Addr × Nat) (fun ⟨x0,x1,x2,x3,x4,x5,x6⟩ => .agg ((kc63 x0 y.1.length x1)).toArray) [.osl j k 57 46 [],.cells A 69 (kc54 l m C n D c r.length u E G H d s.length z a e.length o b f.length p j k I)] [r3 c r,r52 d s,r80 a e,r76 b f] (fun ⟨x0,x1,x2,x3,x4,x5,x6⟩ => [o57 x0 x1 y.1,.osl x2 x3 57 46 [],o3 x5 x6 y.2.2,.cells x4 87 (kc56 n l m B y.2.1 x5 y.2.2.length x6),.cells A 69 (kc55 l m C n D c r.length u E G H d s.length z a e.length o b f.length p x2 x3 x4 y.2.1)]) := by
 intro w hg
 rw [m___primary_Machine__Step_5] at hm
 refine GS.start (S := mayT [.osl j k 57 46 [],.cells A 69 (kc54 l m C n D c r.length u E G H d s.length z a e.length o b f.length p j k I)] [r3 c r,r52 d s,r80 a e,r76 b f]) (mem := [(1,.osl j k 57 46 []),(2,.cells A 69 (kc54 l m C n D c r.length u E G H d s.length z a e.length o b f.length p j k I)),(3,r3 c r),(4,r52 d s),(5,r80 a e),(6,r76 b f)]) Try.func7 rfl Try.ntmps7 (Nat.le_of_ble_eq_true rfl) (hg.start rfl) ?_
 refine GS.conv (env' := [(0,pA A 0),(1,.agg ((kc51 n l m B)).toArray)]) rfl rfl ?_
 refine GS.seq ?_
 refine GS.tz (fun q => [(0,pA A 0),(3,pA ((q 0).x) 0),(4,pA ((q 1).x) 0)]) (fun q => [(1,.osl j k 57 46 []),(2,.cells A 69 (kc54 l m C n D c r.length u E G H d s.length z a e.length o b f.length p j k I)),(3,r3 c r),(4,r52 d s),(5,r80 a e),(6,r76 b f),(7,.cells ((q 0).x) 57 (kc51 n l m B)),(8,.cells ((q 1).x) 60 (kc9))]) [(0,{ act := .new .var,key := some 7 }),(1,{ act := .new .var,key := some 8 })] ?_
 intro q
 refine GS.seq ?_
 refine GS.seq ?_
 refine GS.rM (env' := fun _ => [(0,pA A 0),(3,pA ((q 0).x) 0),(4,pA ((q 1).x) 0),(32,.bool false)]) (RunsTo.mkd [(6,{ act := .load 2 0 0 [] }),(11,{ act := .load 7 0 0 [] }),(15,{ act := .load 2 0 0 [] }),(17,{ act := .eq,sp := some (.bool false) }),(21,{ act := .load 7 0 0 [] }),(25,{ act := .load 2 0 0 [] }),(26,{ act := .eq,sp := some (.bool false) })] [0,3,4,32] [1,2,3,4,5,6,7,8] (fun _ => [A = A,(q 0).x = (q 0).x,A = A,((.bool (!(S_api_Node.beq (S_api_Node.mk 2 n) (S_api_Node.mk 2 n)))) : Value) = .bool false,(q 0).x = (q 0).x,A = A,((.bool (!(S_api_Pg.beq (S_api_Pg.mk l m) (S_api_Pg.mk l m)))) : Value) = .bool false]) (by kernel_rfl) (by kernel_rfl) (fun _ => by kernel_rfl) (fun _ => ⟨rfl,rfl,rfl,(congrArg Value.bool (by simp [S_api_Node.beq])),rfl,rfl,(congrArg Value.bool (by simp [S_api_Pg.beq])),trivial⟩)) ?_
 intro _
 refine GS.cond (t := false) rfl rfl (fun hf => by cases hf) (fun _ => ?_)
 refine GS.skip ?_
 refine GS.seq ?_
 refine GS.seq ?_
 refine GS.tgM (fun _ => [(0,pA A 0),(3,pA ((q 0).x) 0),(4,pA ((q 1).x) 0),(35,vI 30)]) [(1,{ act := .load 7 0 0 [] })] (fun _ => [(q 0).x = (q 0).x]) (fun _ => ⟨rfl,trivial⟩) ?_
 intro _
 refine GS.block ?_
 refine GS.seq ?_
 refine GS.tzM (fun _ => [(0,pA A 0),(3,pA ((q 0).x) 0),(4,pA ((q 1).x) 0),(35,vI 30),(36,.bool true)]) [] ?_
 intro _
 refine GS.cond (t := true) rfl rfl (fun _ => ?_) (fun hf => by cases hf)
 refine GS.seq ?_
 refine bnd_elim hm (fun y6 e7 hm => ?_)
 refine GS.open_ ?_
 refine GR.ru (i := 0) 2 (env' := fun _ => [(4,pA ((q 1).x) 0),(38,pA A 0),(39,.agg ((kc51 n l m B)).toArray)]) (mem' := fun _ => [(1,.osl j k 57 46 []),(2,.cells A 69 (kc54 l m C n D c r.length u E G H d s.length z a e.length o b f.length p j k I)),(3,r3 c r),(4,r52 d s),(5,r80 a e),(6,r76 b f),(8,.cells ((q 1).x) 60 (kc9))]) (by kernel_rfl) (RunsTo.mk [(1,{ act := .load 7 0 0 [] })] [4,38,39] [1,2,3,4,5,6,8] (fun _ => [(q 0).x = (q 0).x]) (fun _ => by kernel_rfl) (fun _ => ⟨rfl,trivial⟩)) ?_
 intro _
 refine GR.callG (X := Option Addr × Nat × Option Addr × Nat × Nat × Option Addr × Nat) (i := 2) (g := 12) (args := #[pA A 0,.agg ((kc51 n l m B)).toArray]) (v := fun ⟨x8,x9,J,K,L,M,N⟩ => .agg ((kc63 x8 y6.1.length x9)).toArray) (own := [.osl j k 57 46 [],.cells A 69 (kc54 l m C n D c r.length u E G H d s.length z a e.length o b f.length p j k I)]) (ro := [r3 c r,r52 d s,r80 a e,r76 b f]) (es' := fun ⟨x8,x9,J,K,L,M,N⟩ => [o57 x8 x9 y6.1,.osl J K 57 46 [],o3 M N y6.2.2,.cells L 87 (kc56 n l m B y6.2.1 M y6.2.2.length N),.cells A 69 (kc55 l m C n D c r.length u E G H d s.length z a e.length o b f.length p J K L y6.2.1)]) (mem' := fun ⟨x8,x9,J,K,L,M,N⟩ => [(2,.cells A 69 (kc55 l m C n D c r.length u E G H d s.length z a e.length o b f.length p J K L y6.2.1)),(3,r3 c r),(4,r52 d s),(5,r80 a e),(6,r76 b f),(8,.cells ((q 1).x) 60 (kc9)),(9,o57 x8 x9 y6.1),(10,.osl J K 57 46 []),(11,.cells L 87 (kc56 n l m B y6.2.1 M y6.2.2.length N)),(12,o3 M N y6.2.2)]) (env' := fun ⟨x8,x9,J,K,L,M,N⟩ => [(4,pA ((q 1).x) 0),(40,.agg ((kc63 x8 y6.1.length x9)).toArray)]) [1,2] [9,10,12,11,2] [4,40] [2,3,4,5,6,8,9,10,11,12] false (by kernel_rfl) (by kernel_rfl) (by kernel_rfl) (by kernel_rfl) (by kernel_rfl) (fun _ => rfl) (fun _ _ => rfl) ⟨(.inl ⟨3,_,rfl,rfl,Cov.refl _,fun h => by cases h⟩),(.inl ⟨4,_,rfl,rfl,Cov.refl _,fun h => by cases h⟩),(.inl ⟨5,_,rfl,rfl,Cov.refl _,fun h => by cases h⟩),(.inl ⟨6,_,rfl,rfl,Cov.refl _,fun h => by cases h⟩),trivial⟩ (by rintro ⟨x8,x9,J,K,L,M,N⟩; kernel_rfl) (by rintro ⟨x8,x9,J,K,L,M,N⟩; kernel_rfl) ((by have h1 := w___primary_Machine__request_3 F A l m C n D c u r E G H d z s a o e b p f j k I B e7; exact h1)) ?_
 rintro ⟨x8,x9,J,K,L,M,N⟩
 refine GR.ru (i := 3) 1 (env' := fun _ => [(4,pA ((q 1).x) 0)]) (mem' := fun _ => [(2,.cells A 69 (kc55 l m C n D c r.length u E G H d s.length z a e.length o b f.length p J K L y6.2.1)),(3,r3 c r),(4,r52 d s),(5,r80 a e),(6,r76 b f),(8,.cells ((q 1).x) 60 (kc63 x8 y6.1.length x9)),(9,o57 x8 x9 y6.1),(10,.osl J K 57 46 []),(11,.cells L 87 (kc56 n l m B y6.2.1 M y6.2.2.length N)),(12,o3 M N y6.2.2)]) (by kernel_rfl) (RunsTo.mk [(3,{ act := .store 0 0 [],key := some 8 })] [4] [2,3,4,5,6,8,9,10,11,12] (fun _ => [(q 1).x = (q 1).x,oC (.agg ((kc63 x8 y6.1.length x9)).toArray)]) (fun _ => by kernel_rfl) (fun _ => ⟨rfl,rfl,trivial⟩)) ?_
 intro _
 refine GR.dn (by kernel_rfl) ?_
 have hy := Option.some.inj hm
 subst hy
 refine GS.ret (fn := Try.f7) [8] [.agg ((kc63 x8 y6.1.length x9)).toArray] [(q 1).x = (q 1).x] rfl Try.func7 (by kernel_rfl) ⟨rfl,trivial⟩ (fun w' hs => ?_)
 exact ⟨⟨x8,x9,J,K,L,M,N⟩,rfl,hs.turnedG (ks := [9,10,12,11,2]) rfl rfl⟩

theorem w___primary_Machine__acked_3 (F E : Nat) (j k D l G : Int) (m : Option Addr) (v : Nat) (A : List Int) (H I J : Int) (n : Option Addr) (z : Nat) (B : List S_api_Entry) (g : Option Addr) (o : Nat) (p : List S_api_Last) (h : Option Addr) (q : Nat) (r : List S_api_Item) (i : Option Addr) (s d : Nat) (f e : Int) (a : Option Addr) (c : Nat) (b : List Int) (C L M N aq ar au ap av aw ax K O P Q R T U V W Y Z aa ab : Int) (ac : Bool) (ad : Int) (ae : ByteArray) (af ag : Int) (ah : ByteArray) (ai aj ak : Int) (al : ByteArray) (am an ao : Int) {y : Unit} (hm : m___primary_Machine__acked_3 F j k D l G A H I J B p r f e b C L M N aq ar au ap av aw ax K O P Q R T U V W Y Z aa ab ac ad ae af ag ah ai aj ak al am an ao = some y) : CallG Try.prog 13 #[pA E 0,.agg ((kc65 L M N aq ar au ap av aw ax K O P Q R T U V W Y Z aa ab ac ad ae af ag ah ai aj ak al am an ao)).toArray] (X := Unit) (fun (_ : Unit) => .agg ((kc9)).toArray) [] [r3 m A,r52 n B,r80 g p,r76 h r,.rd i 46 [],r3 a b,.rd (some ⟨d,0,none⟩) 61 [(kc56 l j k f e a b.length c)],.rd (some ⟨E,0,none⟩) 17 [(kc55 j k D l G m A.length v H I J n B.length z g p.length o h r.length q i s d C)]] (fun (_ : Unit) => []) := by
 intro w hg
 rw [m___primary_Machine__acked_3] at hm
 refine GS.start (S := mayT [] [r3 m A,r52 n B,r80 g p,r76 h r,.rd i 46 [],r3 a b,.rd (some ⟨d,0,none⟩) 61 [(kc56 l j k f e a b.length c)],.rd (some ⟨E,0,none⟩) 17 [(kc55 j k D l G m A.length v H I J n B.length z g p.length o h r.length q i s d C)]]) (mem := [(1,r3 m A),(2,r52 n B),(3,r80 g p),(4,r76 h r),(5,.rd i 46 []),(6,r3 a b),(7,.rd (some ⟨d,0,none⟩) 61 [(kc56 l j k f e a b.length c)]),(8,.rd (some ⟨E,0,none⟩) 17 [(kc55 j k D l G m A.length v H I J n B.length z g p.length o h r.length q i s d C)])]) Try.func13 rfl Try.ntmps13 (Nat.le_of_ble_eq_true rfl) (hg.start rfl) ?_
 refine GS.conv (env' := [(0,pA E 0),(1,.agg ((kc65 L M N aq ar au ap av aw ax K O P Q R T U V W Y Z aa ab ac ad ae af ag ah ai aj ak al am an ao)).toArray)]) rfl rfl ?_
 refine GS.seq ?_
 refine GS.tz (fun u => [(0,pA E 0),(3,pA ((u 0).x) 0),(4,pA ((u 1).x) 0)]) (fun u => [(1,r3 m A),(2,r52 n B),(3,r80 g p),(4,r76 h r),(5,.rd i 46 []),(6,r3 a b),(7,.rd (some ⟨d,0,none⟩) 61 [(kc56 l j k f e a b.length c)]),(8,.rd (some ⟨E,0,none⟩) 17 [(kc55 j k D l G m A.length v H I J n B.length z g p.length o h r.length q i s d C)]),(9,.cells ((u 0).x) 57 (kc65 L M N aq ar au ap av aw ax K O P Q R T U V W Y Z aa ab ac ad ae af ag ah ai aj ak al am an ao)),(10,.cells ((u 1).x) 60 (kc9))]) [(0,{ act := .new .var,key := some 9 }),(1,{ act := .new .var,key := some 10 })] ?_
 intro u
 refine GS.seq ?_
 refine GS.tgM (fun _ => [(0,pA E 0),(3,pA ((u 0).x) 0),(4,pA ((u 1).x) 0),(5,pA d 0)]) [(3,{ act := .load 8 0 13 [vI j,vI k,vI D,vI l,vI G,.slice m A.length v,vI H,vI I,vI J,.slice n B.length z,.slice g p.length o,.slice h r.length q,.slice i 0 s,pA d 0,.bool false,vI C,.bool true] })] (fun _ => [E = blk (some ⟨E,0,none⟩),13 = offs (some ⟨E,0,none⟩) + (0 * 17 + 13),([(kc55 j k D l G m A.length v H I J n B.length z g p.length o h r.length q i s d C)] : List (List Value))[0]? = some [vI j,vI k,vI D,vI l,vI G,.slice m A.length v,vI H,vI I,vI J,.slice n B.length z,.slice g p.length o,.slice h r.length q,.slice i 0 s,pA d 0,.bool false,vI C,.bool true]]) (fun _ => ⟨rfl,rfl,rfl,trivial⟩) ?_
 intro _
 refine GS.seq ?_
 refine GS.seq ?_
 refine grd_elim hm (fun g4 hm => ?_)
 refine GS.rM (env' := fun _ => [(0,pA E 0),(3,pA ((u 0).x) 0),(4,pA ((u 1).x) 0),(5,pA d 0),(34,.bool (M != 2))]) (RunsTo.mkd [(6,{ act := .load 7 0 60 [vI 30,vI 3,vI 0,vI 2,vI l,vI 0,vI 0,vI j,vI k,vI 70,vI f,vI 0,.slice none 0 0,.slice none 0 0,.slice none 0 0,vI 0,vI 0,vI 0,vI 0,vI 0,vI 0,vI 0,vI 0,vI 0,.slice none 0 0,.slice none 0 0,.slice none 0 0,vI 0,vI 0,.bool false,vI 0,.string (ByteArray.mk #[]),vI 0,vI 0,.string (ByteArray.mk #[]),vI 0,vI 0,.slice none 0 0,vI 5,.string (ByteArray.mk #[]),.slice none 0 0,vI 0,vI 0,.slice none 0 0,.slice none 0 0,vI 0,.bool false,vI 0,vI 0,.bool false,vI 0,.string (ByteArray.mk #[]),vI 0,vI 0,.string (ByteArray.mk #[]),vI 0,vI 0,.slice none 0 0,vI e,.slice a b.length c,.bool false] }),(10,{ act := .load 9 0 0 [] }),(14,{ act := .load 8 0 2 [vI j,vI k,vI D,vI l,vI G,.slice m A.length v,vI H,vI I,vI J,.slice n B.length z,.slice g p.length o,.slice h r.length q,.slice i 0 s,pA d 0,.bool false,vI C,.bool true] }),(17,{ sp := some (.bool false) }),(20,{ act := .load 9 0 0 [] })] [0,3,4,5,34] [1,2,3,4,5,6,7,8,9,10] (fun _ => [d = blk (some ⟨d,0,none⟩),60 = offs (some ⟨d,0,none⟩) + (0 * 61 + 60),([(kc56 l j k f e a b.length c)] : List (List Value))[0]? = some [vI 30,vI 3,vI 0,vI 2,vI l,vI 0,vI 0,vI j,vI k,vI 70,vI f,vI 0,.slice none 0 0,.slice none 0 0,.slice none 0 0,vI 0,vI 0,vI 0,vI 0,vI 0,vI 0,vI 0,vI 0,vI 0,.slice none 0 0,.slice none 0 0,.slice none 0 0,vI 0,vI 0,.bool false,vI 0,.string (ByteArray.mk #[]),vI 0,vI 0,.string (ByteArray.mk #[]),vI 0,vI 0,.slice none 0 0,vI 5,.string (ByteArray.mk #[]),.slice none 0 0,vI 0,vI 0,.slice none 0 0,.slice none 0 0,vI 0,.bool false,vI 0,vI 0,.bool false,vI 0,.string (ByteArray.mk #[]),vI 0,vI 0,.string (ByteArray.mk #[]),vI 0,vI 0,.slice none 0 0,vI e,.slice a b.length c,.bool false],(u 0).x = (u 0).x,E = blk (some ⟨E,0,none⟩),2 = offs (some ⟨E,0,none⟩) + (0 * 17 + 2),([(kc55 j k D l G m A.length v H I J n B.length z g p.length o h r.length q i s d C)] : List (List Value))[0]? = some [vI j,vI k,vI D,vI l,vI G,.slice m A.length v,vI H,vI I,vI J,.slice n B.length z,.slice g p.length o,.slice h r.length q,.slice i 0 s,pA d 0,.bool false,vI C,.bool true],((.bool (ap != D)) : Value) = .bool false,(u 0).x = (u 0).x]) (by kernel_rfl) (by kernel_rfl) (fun _ => by kernel_rfl) (fun _ => ⟨rfl,rfl,rfl,rfl,rfl,rfl,rfl,bool_eq (g4),rfl,trivial⟩)) ?_
 intro _
 refine grd_elim hm (fun g5 hm => ?_)
 refine GS.cond (t := M != 2) rfl rfl (fun h6 => absb h6 (g5)) (fun _ => ?_)
 refine GS.skip ?_
 refine GS.seq ?_
 refine bnd_elim hm (fun y8 e9 hm => ?_)
 refine GS.rM (env' := fun _ => [(0,pA E 0),(3,pA ((u 0).x) 0),(4,pA ((u 1).x) 0),(5,pA d 0),(6,vI y8)]) (RunsTo.mkd [(3,{ act := .load 7 0 59 [vI 30,vI 3,vI 0,vI 2,vI l,vI 0,vI 0,vI j,vI k,vI 70,vI f,vI 0,.slice none 0 0,.slice none 0 0,.slice none 0 0,vI 0,vI 0,vI 0,vI 0,vI 0,vI 0,vI 0,vI 0,vI 0,.slice none 0 0,.slice none 0 0,.slice none 0 0,vI 0,vI 0,.bool false,vI 0,.string (ByteArray.mk #[]),vI 0,vI 0,.string (ByteArray.mk #[]),vI 0,vI 0,.slice none 0 0,vI 5,.string (ByteArray.mk #[]),.slice none 0 0,vI 0,vI 0,.slice none 0 0,.slice none 0 0,vI 0,.bool false,vI 0,vI 0,.bool false,vI 0,.string (ByteArray.mk #[]),vI 0,vI 0,.string (ByteArray.mk #[]),vI 0,vI 0,.slice none 0 0,vI e,.slice a b.length c,.bool false] }),(6,{ act := .load 9 0 0 [] }),(7,{ act := .call [6] (vI y8) })] [0,3,4,5,6] [1,2,3,4,5,6,7,8,9,10] (fun _ => [d = blk (some ⟨d,0,none⟩),59 = offs (some ⟨d,0,none⟩) + (0 * 61 + 59),([(kc56 l j k f e a b.length c)] : List (List Value))[0]? = some [vI 30,vI 3,vI 0,vI 2,vI l,vI 0,vI 0,vI j,vI k,vI 70,vI f,vI 0,.slice none 0 0,.slice none 0 0,.slice none 0 0,vI 0,vI 0,vI 0,vI 0,vI 0,vI 0,vI 0,vI 0,vI 0,.slice none 0 0,.slice none 0 0,.slice none 0 0,vI 0,vI 0,.bool false,vI 0,.string (ByteArray.mk #[]),vI 0,vI 0,.string (ByteArray.mk #[]),vI 0,vI 0,.slice none 0 0,vI 5,.string (ByteArray.mk #[]),.slice none 0 0,vI 0,vI 0,.slice none 0 0,.slice none 0 0,vI 0,.bool false,vI 0,vI 0,.bool false,vI 0,.string (ByteArray.mk #[]),vI 0,vI 0,.string (ByteArray.mk #[]),vI 0,vI 0,.slice none 0 0,vI e,.slice a b.length c,.bool false],(u 0).x = (u 0).x,CallOK Try.prog 14 #[.slice a b.length c,vI N] (vI y8) [some (r3 a b)]]) (by kernel_rfl) (by kernel_rfl) (fun _ => by kernel_rfl) (fun _ => ⟨rfl,rfl,rfl,rfl,(by have h1 := w_slices_Index___int_int__3 F a c b N e9; exact h1.ok ⟨(.inl ⟨r3 a b,.head _,Cov.refl _⟩),trivial⟩),trivial⟩)) ?_
 intro _
 refine GS.seq ?_
 refine grd_elim hm (fun ay hm => ?_)
 refine grd_elim hm (fun az hm => ?_)
 refine GS.region (env' := fun _ => [(0,pA E 0),(4,pA ((u 1).x) 0),(5,pA d 0),(6,vI y8),(7,.bool (K == e))]) (mem' := fun _ => [(1,r3 m A),(2,r52 n B),(3,r80 g p),(4,r76 h r),(5,.rd i 46 []),(6,r3 a b),(7,.rd (some ⟨d,0,none⟩) 61 [(kc56 l j k f e a b.length c)]),(8,.rd (some ⟨E,0,none⟩) 17 [(kc55 j k D l G m A.length v H I J n B.length z g p.length o h r.length q i s d C)]),(10,.cells ((u 1).x) 60 (kc9))]) (RunsTo.mkd [(1,{ act := .load 9 0 0 [] }),(3,{ sp := some (.bool false) }),(22,{ act := .load 9 0 0 [] }),(24,{ sp := some (.bool true) }),(28,{ act := .load 7 0 46 [vI 30,vI 3,vI 0,vI 2,vI l,vI 0,vI 0,vI j,vI k,vI 70,vI f,vI 0,.slice none 0 0,.slice none 0 0,.slice none 0 0,vI 0,vI 0,vI 0,vI 0,vI 0,vI 0,vI 0,vI 0,vI 0,.slice none 0 0,.slice none 0 0,.slice none 0 0,vI 0,vI 0,.bool false,vI 0,.string (ByteArray.mk #[]),vI 0,vI 0,.string (ByteArray.mk #[]),vI 0,vI 0,.slice none 0 0,vI 5,.string (ByteArray.mk #[]),.slice none 0 0,vI 0,vI 0,.slice none 0 0,.slice none 0 0,vI 0,.bool false,vI 0,vI 0,.bool false,vI 0,.string (ByteArray.mk #[]),vI 0,vI 0,.string (ByteArray.mk #[]),vI 0,vI 0,.slice none 0 0,vI e,.slice a b.length c,.bool false] }),(33,{ act := .load 9 0 0 [] }),(37,{ act := .load 7 0 58 [vI 30,vI 3,vI 0,vI 2,vI l,vI 0,vI 0,vI j,vI k,vI 70,vI f,vI 0,.slice none 0 0,.slice none 0 0,.slice none 0 0,vI 0,vI 0,vI 0,vI 0,vI 0,vI 0,vI 0,vI 0,vI 0,.slice none 0 0,.slice none 0 0,.slice none 0 0,vI 0,vI 0,.bool false,vI 0,.string (ByteArray.mk #[]),vI 0,vI 0,.string (ByteArray.mk #[]),vI 0,vI 0,.slice none 0 0,vI 5,.string (ByteArray.mk #[]),.slice none 0 0,vI 0,vI 0,.slice none 0 0,.slice none 0 0,vI 0,.bool false,vI 0,vI 0,.bool false,vI 0,.string (ByteArray.mk #[]),vI 0,vI 0,.string (ByteArray.mk #[]),vI 0,vI 0,.slice none 0 0,vI e,.slice a b.length c,.bool false] })] [0,4,5,6,7] [1,2,3,4,5,6,7,8,10] (fun _ => [(u 0).x = (u 0).x,((.bool (L == 33)) : Value) = .bool false,(u 0).x = (u 0).x,((.bool (L == 35)) : Value) = .bool true,d = blk (some ⟨d,0,none⟩),46 = offs (some ⟨d,0,none⟩) + (0 * 61 + 46),([(kc56 l j k f e a b.length c)] : List (List Value))[0]? = some [vI 30,vI 3,vI 0,vI 2,vI l,vI 0,vI 0,vI j,vI k,vI 70,vI f,vI 0,.slice none 0 0,.slice none 0 0,.slice none 0 0,vI 0,vI 0,vI 0,vI 0,vI 0,vI 0,vI 0,vI 0,vI 0,.slice none 0 0,.slice none 0 0,.slice none 0 0,vI 0,vI 0,.bool false,vI 0,.string (ByteArray.mk #[]),vI 0,vI 0,.string (ByteArray.mk #[]),vI 0,vI 0,.slice none 0 0,vI 5,.string (ByteArray.mk #[]),.slice none 0 0,vI 0,vI 0,.slice none 0 0,.slice none 0 0,vI 0,.bool false,vI 0,vI 0,.bool false,vI 0,.string (ByteArray.mk #[]),vI 0,vI 0,.string (ByteArray.mk #[]),vI 0,vI 0,.slice none 0 0,vI e,.slice a b.length c,.bool false],(u 0).x = (u 0).x,d = blk (some ⟨d,0,none⟩),58 = offs (some ⟨d,0,none⟩) + (0 * 61 + 58),([(kc56 l j k f e a b.length c)] : List (List Value))[0]? = some [vI 30,vI 3,vI 0,vI 2,vI l,vI 0,vI 0,vI j,vI k,vI 70,vI f,vI 0,.slice none 0 0,.slice none 0 0,.slice none 0 0,vI 0,vI 0,vI 0,vI 0,vI 0,vI 0,vI 0,vI 0,vI 0,.slice none 0 0,.slice none 0 0,.slice none 0 0,vI 0,vI 0,.bool false,vI 0,.string (ByteArray.mk #[]),vI 0,vI 0,.string (ByteArray.mk #[]),vI 0,vI 0,.slice none 0 0,vI 5,.string (ByteArray.mk #[]),.slice none 0 0,vI 0,vI 0,.slice none 0 0,.slice none 0 0,vI 0,.bool false,vI 0,vI 0,.bool false,vI 0,.string (ByteArray.mk #[]),vI 0,vI 0,.string (ByteArray.mk #[]),vI 0,vI 0,.slice none 0 0,vI e,.slice a b.length c,.bool false]]) (by kernel_rfl) (by kernel_rfl) (fun _ => by kernel_rfl) (fun _ => ⟨rfl,bool_eq (ay),rfl,bool_eq (az),rfl,rfl,rfl,rfl,rfl,rfl,rfl,trivial⟩)) ?_
 intro _
 refine GS.seq ?_
 refine GS.seq ?_
 refine grd_elim hm (fun a0 hm => ?_)
 refine GS.tgM (fun _ => [(0,pA E 0),(4,pA ((u 1).x) 0),(5,pA d 0),(6,vI y8),(90,.bool (!(K == e)))]) [(2,{ sp := some (.bool false) })] (fun _ => [((.bool (decide (y8 < 0))) : Value) = .bool false]) (fun _ => ⟨bool_eq (a0),trivial⟩) ?_
 intro _
 refine grd_elim hm (fun a1 hm => ?_)
 refine GS.cond (t := !(K == e)) rfl rfl (fun _ => ?_) (fun a2 => absb (a1) a2)
 refine GS.seq ?_
 refine GS.tg (fun _ => [(4,pA ((u 1).x) 0)]) (fun _ => [(10,.cells ((u 1).x) 60 (kc9))]) [(1,{ act := .store 0 0 [],key := some 10 })] (fun _ => [(u 1).x = (u 1).x,oC (.agg ((kc9)).toArray)]) (fun _ => ⟨rfl,rfl,trivial⟩) ?_
 intro _
 have hy := Option.some.inj hm
 subst hy
 refine GS.ret (fn := Try.f13) [10] [.agg ((kc9)).toArray] [(u 1).x = (u 1).x] rfl Try.func13 (by kernel_rfl) ⟨rfl,trivial⟩ (fun w' hs => ?_)
 exact ⟨(),rfl,hs.turnedG (ks := []) rfl rfl⟩

theorem w___primary_Machine__Step_6 (F J : Nat) (p q D r E : Int) (e : Option Addr) (n : Nat) (s : List Int) (G H I : Int) (f : Option Addr) (o : Nat) (u : List S_api_Entry) (a : Option Addr) (i : Nat) (l : List S_api_Last) (b : Option Addr) (j : Nat) (m : List S_api_Item) (c : Option Addr) (k g : Nat) (B C : Int) (d : Option Addr) (v : Nat) (h : List Int) (z K ar au ap aq av aw an ao ax L M N O P Q R T U V W Y Z : Int) (aa : Bool) (ab : Int) (ac : ByteArray) (ad ae : Int) (af : ByteArray) (ag ah ai : Int) (aj : ByteArray) (ak al am : Int) {y : Unit} (hm : m___primary_Machine__Step_6 F p q D r E s G H I u l m B C h z K ar au ap aq av aw an ao ax L M N O P Q R T U V W Y Z aa ab ac ad ae af ag ah ai aj ak al am = some y) : CallG Try.prog 7 #[pA J 0,.agg ((kc65 K ar au ap aq av aw an ao ax L M N O P Q R T U V W Y Z aa ab ac ad ae af ag ah ai aj ak al am)).toArray] (X := Unit) (fun (_ : Unit) => .agg ((kc9)).toArray) [] [r3 e s,r52 f u,r80 a l,r76 b m,.rd c 46 [],r3 d h,.rd (some ⟨g,0,none⟩) 61 [(kc56 r p q B C d h.length v)],.rd (some ⟨J,0,none⟩) 17 [(kc55 p q D r E e s.length n G H I f u.length o a l.length i b m.length j c k g z)]] (fun (_ : Unit) => []) := by
 intro w hg
 rw [m___primary_Machine__Step_6] at hm
 refine GS.start (S := mayT [] [r3 e s,r52 f u,r80 a l,r76 b m,.rd c 46 [],r3 d h,.rd (some ⟨g,0,none⟩) 61 [(kc56 r p q B C d h.length v)],.rd (some ⟨J,0,none⟩) 17 [(kc55 p q D r E e s.length n G H I f u.length o a l.length i b m.length j c k g z)]]) (mem := [(1,r3 e s),(2,r52 f u),(3,r80 a l),(4,r76 b m),(5,.rd c 46 []),(6,r3 d h),(7,.rd (some ⟨g,0,none⟩) 61 [(kc56 r p q B C d h.length v)]),(8,.rd (some ⟨J,0,none⟩) 17 [(kc55 p q D r E e s.length n G H I f u.length o a l.length i b m.length j c k g z)])]) Try.func7 rfl Try.ntmps7 (Nat.le_of_ble_eq_true rfl) (hg.start rfl) ?_
 refine GS.conv (env' := [(0,pA J 0),(1,.agg ((kc65 K ar au ap aq av aw an ao ax L M N O P Q R T U V W Y Z aa ab ac ad ae af ag ah ai aj ak al am)).toArray)]) rfl rfl ?_
 refine GS.seq ?_
 refine GS.tz (fun A => [(0,pA J 0),(3,pA ((A 0).x) 0),(4,pA ((A 1).x) 0)]) (fun A => [(1,r3 e s),(2,r52 f u),(3,r80 a l),(4,r76 b m),(5,.rd c 46 []),(6,r3 d h),(7,.rd (some ⟨g,0,none⟩) 61 [(kc56 r p q B C d h.length v)]),(8,.rd (some ⟨J,0,none⟩) 17 [(kc55 p q D r E e s.length n G H I f u.length o a l.length i b m.length j c k g z)]),(9,.cells ((A 0).x) 57 (kc65 K ar au ap aq av aw an ao ax L M N O P Q R T U V W Y Z aa ab ac ad ae af ag ah ai aj ak al am)),(10,.cells ((A 1).x) 60 (kc9))]) [(0,{ act := .new .var,key := some 9 }),(1,{ act := .new .var,key := some 10 })] ?_
 intro A
 refine GS.seq ?_
 refine GS.seq ?_
 refine grd_elim hm (fun g3 hm => ?_)
 refine GS.rM (env' := fun _ => [(0,pA J 0),(3,pA ((A 0).x) 0),(4,pA ((A 1).x) 0),(32,.bool (!(S_api_Pg.beq (S_api_Pg.mk an ao) (S_api_Pg.mk p q))))]) (RunsTo.mkd [(6,{ act := .load 8 0 16 [vI p,vI q,vI D,vI r,vI E,.slice e s.length n,vI G,vI H,vI I,.slice f u.length o,.slice a l.length i,.slice b m.length j,.slice c 0 k,pA g 0,.bool false,vI z,.bool true] }),(11,{ act := .load 9 0 0 [] }),(15,{ act := .load 8 0 3 [vI p,vI q,vI D,vI r,vI E,.slice e s.length n,vI G,vI H,vI I,.slice f u.length o,.slice a l.length i,.slice b m.length j,.slice c 0 k,pA g 0,.bool false,vI z,.bool true] }),(17,{ act := .eq }),(19,{ sp := some (.bool false) }),(21,{ act := .load 9 0 0 [] }),(25,{ act := .load 8 0 0 [vI p,vI q,vI D,vI r,vI E,.slice e s.length n,vI G,vI H,vI I,.slice f u.length o,.slice a l.length i,.slice b m.length j,.slice c 0 k,pA g 0,.bool false,vI z,.bool true] }),(26,{ act := .eq })] [0,3,4,32] [1,2,3,4,5,6,7,8,9,10] (fun _ => [J = blk (some ⟨J,0,none⟩),16 = offs (some ⟨J,0,none⟩) + (0 * 17 + 16),([(kc55 p q D r E e s.length n G H I f u.length o a l.length i b m.length j c k g z)] : List (List Value))[0]? = some [vI p,vI q,vI D,vI r,vI E,.slice e s.length n,vI G,vI H,vI I,.slice f u.length o,.slice a l.length i,.slice b m.length j,.slice c 0 k,pA g 0,.bool false,vI z,.bool true],(A 0).x = (A 0).x,J = blk (some ⟨J,0,none⟩),3 = offs (some ⟨J,0,none⟩) + (0 * 17 + 3),([(kc55 p q D r E e s.length n G H I f u.length o a l.length i b m.length j c k g z)] : List (List Value))[0]? = some [vI p,vI q,vI D,vI r,vI E,.slice e s.length n,vI G,vI H,vI I,.slice f u.length o,.slice a l.length i,.slice b m.length j,.slice c 0 k,pA g 0,.bool false,vI z,.bool true],((.bool (!(S_api_Node.beq (S_api_Node.mk ap aq) (S_api_Node.mk 2 r)))) : Value) = .bool false,(A 0).x = (A 0).x,J = blk (some ⟨J,0,none⟩),0 = offs (some ⟨J,0,none⟩) + (0 * 17 + 0),([(kc55 p q D r E e s.length n G H I f u.length o a l.length i b m.length j c k g z)] : List (List Value))[0]? = some [vI p,vI q,vI D,vI r,vI E,.slice e s.length n,vI G,vI H,vI I,.slice f u.length o,.slice a l.length i,.slice b m.length j,.slice c 0 k,pA g 0,.bool false,vI z,.bool true]]) (by kernel_rfl) (by kernel_rfl) (fun _ => by kernel_rfl) (fun _ => ⟨rfl,rfl,rfl,rfl,rfl,rfl,rfl,bool_eq (g3),rfl,rfl,rfl,rfl,trivial⟩)) ?_
 intro _
 refine grd_elim hm (fun g4 hm => ?_)
 refine GS.cond (t := !(S_api_Pg.beq (S_api_Pg.mk an ao) (S_api_Pg.mk p q))) rfl rfl (fun h5 => absb h5 (g4)) (fun _ => ?_)
 refine GS.skip ?_
 refine GS.seq ?_
 refine GS.seq ?_
 refine GS.tgM (fun _ => [(0,pA J 0),(3,pA ((A 0).x) 0),(4,pA ((A 1).x) 0),(35,vI K)]) [(1,{ act := .load 9 0 0 [] })] (fun _ => [(A 0).x = (A 0).x]) (fun _ => ⟨rfl,trivial⟩) ?_
 intro _
 refine GS.block ?_
 refine GS.seq ?_
 refine GS.tzM (fun _ => [(0,pA J 0),(3,pA ((A 0).x) 0),(4,pA ((A 1).x) 0),(35,vI K),(36,.bool (K == 30))]) [] ?_
 intro _
 refine grd_elim hm (fun g8 hm => ?_)
 refine GS.cond (t := K == 30) rfl rfl (fun h9 => absb h9 (g8)) (fun _ => ?_)
 refine GS.seq ?_
 refine GS.seq ?_
 refine GS.tzM (fun _ => [(0,pA J 0),(3,pA ((A 0).x) 0),(4,pA ((A 1).x) 0),(35,vI K),(41,.bool (K == 33))]) [] ?_
 intro _
 refine grd_elim hm (fun ay hm => ?_)
 refine GS.cond (t := K == 33) rfl rfl (fun az => absb az (ay)) (fun _ => ?_)
 refine GS.tzM (fun _ => [(0,pA J 0),(3,pA ((A 0).x) 0),(4,pA ((A 1).x) 0),(41,.bool (K == 35))]) [] ?_
 intro _
 refine grd_elim hm (fun a0 hm => ?_)
 refine GS.cond (t := K == 35) rfl rfl (fun _ => ?_) (fun a1 => absb (a0) a1)
 refine GS.seq ?_
 refine bnd_elim hm (fun a3 a2 hm => ?_)
 refine GS.tg (fun _ => [(4,pA ((A 1).x) 0)]) (fun _ => [(10,.cells ((A 1).x) 60 (kc9))]) [(1,{ act := .load 9 0 0 [] }),(2,{ act := .call [1,2,3,4,5,6,7,8] (.agg ((kc9)).toArray) }),(3,{ act := .store 0 0 [],key := some 10 })] (fun _ => [(A 0).x = (A 0).x,CallOK Try.prog 13 #[pA J 0,.agg ((kc65 K ar au ap aq av aw an ao ax L M N O P Q R T U V W Y Z aa ab ac ad ae af ag ah ai aj ak al am)).toArray] (.agg ((kc9)).toArray) [some (r3 e s),some (r52 f u),some (r80 a l),some (r76 b m),some (.rd c 46 []),some (r3 d h),some (.rd (some ⟨g,0,none⟩) 61 [(kc56 r p q B C d h.length v)]),some (.rd (some ⟨J,0,none⟩) 17 [(kc55 p q D r E e s.length n G H I f u.length o a l.length i b m.length j c k g z)])],(A 1).x = (A 1).x,oC (.agg ((kc9)).toArray)]) (fun _ => ⟨rfl,(by have h1 := w___primary_Machine__acked_3 F J p q D r E e n s G H I f o u a i l b j m c k g B C d v h z K ar au ap aq av aw an ao ax L M N O P Q R T U V W Y Z aa ab ac ad ae af ag ah ai aj ak al am a2; exact h1.ok ⟨(.inl ⟨r3 e s,.head _,Cov.refl _⟩),(.inl ⟨r52 f u,(.tail _ (.head _)),Cov.refl _⟩),(.inl ⟨r80 a l,(.tail _ (.tail _ (.head _))),Cov.refl _⟩),(.inl ⟨r76 b m,(.tail _ (.tail _ (.tail _ (.head _)))),Cov.refl _⟩),(.inl ⟨.rd c 46 [],(.tail _ (.tail _ (.tail _ (.tail _ (.head _))))),Cov.refl _⟩),(.inl ⟨r3 d h,(.tail _ (.tail _ (.tail _ (.tail _ (.tail _ (.head _)))))),Cov.refl _⟩),(.inl ⟨.rd (some ⟨g,0,none⟩) 61 [(kc56 r p q B C d h.length v)],(.tail _ (.tail _ (.tail _ (.tail _ (.tail _ (.tail _ (.head _))))))),Cov.refl _⟩),(.inl ⟨.rd (some ⟨J,0,none⟩) 17 [(kc55 p q D r E e s.length n G H I f u.length o a l.length i b m.length j c k g z)],(.tail _ (.tail _ (.tail _ (.tail _ (.tail _ (.tail _ (.tail _ (.head _)))))))),Cov.refl _⟩),trivial⟩),rfl,rfl,trivial⟩) ?_
 intro _
 have hy := Option.some.inj hm
 subst hy
 refine GS.ret (fn := Try.f7) [10] [.agg ((kc9)).toArray] [(A 1).x = (A 1).x] rfl Try.func7 (by kernel_rfl) ⟨rfl,trivial⟩ (fun w' hs => ?_)
 exact ⟨(),rfl,hs.turnedG (ks := []) rfl rfl⟩

theorem w___primary_Machine__acked_4 (F C : Nat) (q r s u v : Int) (d : Option Addr) (k : Nat) (m : List Int) (z A B : Int) (e : Option Addr) (l : Nat) (n : List S_api_Entry) (a : Option Addr) (h : Nat) (f : List S_api_Last) (b : Option Addr) (i : Nat) (g : List S_api_Item) (c : Option Addr) (j : Nat) (o E G H I J K L D : Int) {y : Unit} (hm : m___primary_Machine__acked_4 F q r s u v m z A B n f g o E G H I J K L D = some y) : CallG Try.prog 13 #[pA C 0,.agg ((kc66 E G H I J K L D)).toArray] (X := Unit) (fun (_ : Unit) => .agg ((kc9)).toArray) [] [r3 d m,r52 e n,r80 a f,r76 b g,.rd c 46 [],.rd (some ⟨C,0,none⟩) 17 [(kc54 q r s u v d m.length k z A B e n.length l a f.length h b g.length i c j o)]] (fun (_ : Unit) => []) := by
 intro w hg
 rw [m___primary_Machine__acked_4] at hm
 refine GS.start (S := mayT [] [r3 d m,r52 e n,r80 a f,r76 b g,.rd c 46 [],.rd (some ⟨C,0,none⟩) 17 [(kc54 q r s u v d m.length k z A B e n.length l a f.length h b g.length i c j o)]]) (mem := [(1,r3 d m),(2,r52 e n),(3,r80 a f),(4,r76 b g),(5,.rd c 46 []),(6,.rd (some ⟨C,0,none⟩) 17 [(kc54 q r s u v d m.length k z A B e n.length l a f.length h b g.length i c j o)])]) Try.func13 rfl Try.ntmps13 (Nat.le_of_ble_eq_true rfl) (hg.start rfl) ?_
 refine GS.conv (env' := [(0,pA C 0),(1,.agg ((kc66 E G H I J K L D)).toArray)]) rfl rfl ?_
 refine GS.seq ?_
 refine GS.tz (fun p => [(0,pA C 0),(3,pA ((p 0).x) 0),(4,pA ((p 1).x) 0)]) (fun p => [(1,r3 d m),(2,r52 e n),(3,r80 a f),(4,r76 b g),(5,.rd c 46 []),(6,.rd (some ⟨C,0,none⟩) 17 [(kc54 q r s u v d m.length k z A B e n.length l a f.length h b g.length i c j o)]),(7,.cells ((p 0).x) 57 (kc66 E G H I J K L D)),(8,.cells ((p 1).x) 60 (kc9))]) [(0,{ act := .new .var,key := some 7 }),(1,{ act := .new .var,key := some 8 })] ?_
 intro p
 refine GS.seq ?_
 refine GS.tgM (fun _ => [(0,pA C 0),(3,pA ((p 0).x) 0),(4,pA ((p 1).x) 0),(5,.pointer none)]) [(3,{ act := .load 6 0 13 [vI q,vI r,vI s,vI u,vI v,.slice d m.length k,vI z,vI A,vI B,.slice e n.length l,.slice a f.length h,.slice b g.length i,.slice c 0 j,.pointer none,.bool false,vI o,.bool true] })] (fun _ => [C = blk (some ⟨C,0,none⟩),13 = offs (some ⟨C,0,none⟩) + (0 * 17 + 13),([(kc54 q r s u v d m.length k z A B e n.length l a f.length h b g.length i c j o)] : List (List Value))[0]? = some [vI q,vI r,vI s,vI u,vI v,.slice d m.length k,vI z,vI A,vI B,.slice e n.length l,.slice a f.length h,.slice b g.length i,.slice c 0 j,.pointer none,.bool false,vI o,.bool true]]) (fun _ => ⟨rfl,rfl,rfl,trivial⟩) ?_
 intro _
 refine GS.seq ?_
 refine GS.seq ?_
 refine GS.rM (env' := fun _ => [(0,pA C 0),(3,pA ((p 0).x) 0),(4,pA ((p 1).x) 0),(5,.pointer none),(34,.bool true)]) (RunsTo.mkd [] [0,3,4,5,34] [1,2,3,4,5,6,7,8] (fun _ => []) (by kernel_rfl) (by kernel_rfl) (fun _ => by kernel_rfl) (fun _ => trivial)) ?_
 intro _
 refine GS.cond (t := true) rfl rfl (fun _ => ?_) (fun hf => by cases hf)
 refine GS.seq ?_
 refine GS.tg (fun _ => [(4,pA ((p 1).x) 0)]) (fun _ => [(8,.cells ((p 1).x) 60 (kc9))]) [(1,{ act := .store 0 0 [],key := some 8 })] (fun _ => [(p 1).x = (p 1).x,oC (.agg ((kc9)).toArray)]) (fun _ => ⟨rfl,rfl,trivial⟩) ?_
 intro _
 have hy := Option.some.inj hm
 subst hy
 refine GS.ret (fn := Try.f13) [8] [.agg ((kc9)).toArray] [(p 1).x = (p 1).x] rfl Try.func13 (by kernel_rfl) ⟨rfl,trivial⟩ (fun w' hs => ?_)
 exact ⟨(),rfl,hs.turnedG (ks := []) rfl rfl⟩

theorem w___primary_Machine__Step_7 (F C : Nat) (q r u s v : Int) (d : Option Addr) (k : Nat) (m : List Int) (z A B : Int) (e : Option Addr) (l : Nat) (n : List S_api_Entry) (a : Option Addr) (f : Nat) (i : List S_api_Last) (b : Option Addr) (g : Nat) (j : List S_api_Item) (c : Option Addr) (h : Nat) (o J K H I L E G D : Int) {y : Unit} (hm : m___primary_Machine__Step_7 F q r u s v m z A B n i j o J K H I L E G D = some y) : CallG Try.prog 7 #[pA C 0,.agg ((kc66 J K H I L E G D)).toArray] (X := Unit) (fun (_ : Unit) => .agg ((kc9)).toArray) [] [r3 d m,r52 e n,r80 a i,r76 b j,.rd c 46 [],.rd (some ⟨C,0,none⟩) 17 [(kc54 q r u s v d m.length k z A B e n.length l a i.length f b j.length g c h o)]] (fun (_ : Unit) => []) := by
 intro w hg
 rw [m___primary_Machine__Step_7] at hm
 refine GS.start (S := mayT [] [r3 d m,r52 e n,r80 a i,r76 b j,.rd c 46 [],.rd (some ⟨C,0,none⟩) 17 [(kc54 q r u s v d m.length k z A B e n.length l a i.length f b j.length g c h o)]]) (mem := [(1,r3 d m),(2,r52 e n),(3,r80 a i),(4,r76 b j),(5,.rd c 46 []),(6,.rd (some ⟨C,0,none⟩) 17 [(kc54 q r u s v d m.length k z A B e n.length l a i.length f b j.length g c h o)])]) Try.func7 rfl Try.ntmps7 (Nat.le_of_ble_eq_true rfl) (hg.start rfl) ?_
 refine GS.conv (env' := [(0,pA C 0),(1,.agg ((kc66 J K H I L E G D)).toArray)]) rfl rfl ?_
 refine GS.seq ?_
 refine GS.tz (fun p => [(0,pA C 0),(3,pA ((p 0).x) 0),(4,pA ((p 1).x) 0)]) (fun p => [(1,r3 d m),(2,r52 e n),(3,r80 a i),(4,r76 b j),(5,.rd c 46 []),(6,.rd (some ⟨C,0,none⟩) 17 [(kc54 q r u s v d m.length k z A B e n.length l a i.length f b j.length g c h o)]),(7,.cells ((p 0).x) 57 (kc66 J K H I L E G D)),(8,.cells ((p 1).x) 60 (kc9))]) [(0,{ act := .new .var,key := some 7 }),(1,{ act := .new .var,key := some 8 })] ?_
 intro p
 refine GS.seq ?_
 refine GS.seq ?_
 refine grd_elim hm (fun g3 hm => ?_)
 refine GS.rM (env' := fun _ => [(0,pA C 0),(3,pA ((p 0).x) 0),(4,pA ((p 1).x) 0),(32,.bool (!(S_api_Pg.beq (S_api_Pg.mk E G) (S_api_Pg.mk q r))))]) (RunsTo.mkd [(6,{ act := .load 6 0 16 [vI q,vI r,vI u,vI s,vI v,.slice d m.length k,vI z,vI A,vI B,.slice e n.length l,.slice a i.length f,.slice b j.length g,.slice c 0 h,.pointer none,.bool false,vI o,.bool true] }),(11,{ act := .load 7 0 0 [] }),(15,{ act := .load 6 0 3 [vI q,vI r,vI u,vI s,vI v,.slice d m.length k,vI z,vI A,vI B,.slice e n.length l,.slice a i.length f,.slice b j.length g,.slice c 0 h,.pointer none,.bool false,vI o,.bool true] }),(17,{ act := .eq }),(19,{ sp := some (.bool false) }),(21,{ act := .load 7 0 0 [] }),(25,{ act := .load 6 0 0 [vI q,vI r,vI u,vI s,vI v,.slice d m.length k,vI z,vI A,vI B,.slice e n.length l,.slice a i.length f,.slice b j.length g,.slice c 0 h,.pointer none,.bool false,vI o,.bool true] }),(26,{ act := .eq })] [0,3,4,32] [1,2,3,4,5,6,7,8] (fun _ => [C = blk (some ⟨C,0,none⟩),16 = offs (some ⟨C,0,none⟩) + (0 * 17 + 16),([(kc54 q r u s v d m.length k z A B e n.length l a i.length f b j.length g c h o)] : List (List Value))[0]? = some [vI q,vI r,vI u,vI s,vI v,.slice d m.length k,vI z,vI A,vI B,.slice e n.length l,.slice a i.length f,.slice b j.length g,.slice c 0 h,.pointer none,.bool false,vI o,.bool true],(p 0).x = (p 0).x,C = blk (some ⟨C,0,none⟩),3 = offs (some ⟨C,0,none⟩) + (0 * 17 + 3),([(kc54 q r u s v d m.length k z A B e n.length l a i.length f b j.length g c h o)] : List (List Value))[0]? = some [vI q,vI r,vI u,vI s,vI v,.slice d m.length k,vI z,vI A,vI B,.slice e n.length l,.slice a i.length f,.slice b j.length g,.slice c 0 h,.pointer none,.bool false,vI o,.bool true],((.bool (!(S_api_Node.beq (S_api_Node.mk H I) (S_api_Node.mk 2 s)))) : Value) = .bool false,(p 0).x = (p 0).x,C = blk (some ⟨C,0,none⟩),0 = offs (some ⟨C,0,none⟩) + (0 * 17 + 0),([(kc54 q r u s v d m.length k z A B e n.length l a i.length f b j.length g c h o)] : List (List Value))[0]? = some [vI q,vI r,vI u,vI s,vI v,.slice d m.length k,vI z,vI A,vI B,.slice e n.length l,.slice a i.length f,.slice b j.length g,.slice c 0 h,.pointer none,.bool false,vI o,.bool true]]) (by kernel_rfl) (by kernel_rfl) (fun _ => by kernel_rfl) (fun _ => ⟨rfl,rfl,rfl,rfl,rfl,rfl,rfl,bool_eq (g3),rfl,rfl,rfl,rfl,trivial⟩)) ?_
 intro _
 refine grd_elim hm (fun g4 hm => ?_)
 refine GS.cond (t := !(S_api_Pg.beq (S_api_Pg.mk E G) (S_api_Pg.mk q r))) rfl rfl (fun h5 => absb h5 (g4)) (fun _ => ?_)
 refine GS.skip ?_
 refine GS.seq ?_
 refine GS.seq ?_
 refine GS.tgM (fun _ => [(0,pA C 0),(3,pA ((p 0).x) 0),(4,pA ((p 1).x) 0),(35,vI 35)]) [(1,{ act := .load 7 0 0 [] })] (fun _ => [(p 0).x = (p 0).x]) (fun _ => ⟨rfl,trivial⟩) ?_
 intro _
 refine GS.block ?_
 refine GS.seq ?_
 refine GS.tzM (fun _ => [(0,pA C 0),(3,pA ((p 0).x) 0),(4,pA ((p 1).x) 0),(35,vI 35),(36,.bool false)]) [] ?_
 intro _
 refine GS.cond (t := false) rfl rfl (fun hf => by cases hf) (fun _ => ?_)
 refine GS.seq ?_
 refine GS.seq ?_
 refine GS.tzM (fun _ => [(0,pA C 0),(3,pA ((p 0).x) 0),(4,pA ((p 1).x) 0),(35,vI 35),(41,.bool false)]) [] ?_
 intro _
 refine GS.cond (t := false) rfl rfl (fun hf => by cases hf) (fun _ => ?_)
 refine GS.tzM (fun _ => [(0,pA C 0),(3,pA ((p 0).x) 0),(4,pA ((p 1).x) 0),(41,.bool true)]) [] ?_
 intro _
 refine GS.cond (t := true) rfl rfl (fun _ => ?_) (fun hf => by cases hf)
 refine GS.seq ?_
 refine bnd_elim hm (fun N M hm => ?_)
 refine GS.tg (fun _ => [(4,pA ((p 1).x) 0)]) (fun _ => [(8,.cells ((p 1).x) 60 (kc9))]) [(1,{ act := .load 7 0 0 [] }),(2,{ act := .call [1,2,3,4,5,6] (.agg ((kc9)).toArray) }),(3,{ act := .store 0 0 [],key := some 8 })] (fun _ => [(p 0).x = (p 0).x,CallOK Try.prog 13 #[pA C 0,.agg ((kc66 J K H I L E G D)).toArray] (.agg ((kc9)).toArray) [some (r3 d m),some (r52 e n),some (r80 a i),some (r76 b j),some (.rd c 46 []),some (.rd (some ⟨C,0,none⟩) 17 [(kc54 q r u s v d m.length k z A B e n.length l a i.length f b j.length g c h o)])],(p 1).x = (p 1).x,oC (.agg ((kc9)).toArray)]) (fun _ => ⟨rfl,(by have h1 := w___primary_Machine__acked_4 F C q r u s v d k m z A B e l n a f i b g j c h o J K H I L E G D M; exact h1.ok ⟨(.inl ⟨r3 d m,.head _,Cov.refl _⟩),(.inl ⟨r52 e n,(.tail _ (.head _)),Cov.refl _⟩),(.inl ⟨r80 a i,(.tail _ (.tail _ (.head _))),Cov.refl _⟩),(.inl ⟨r76 b j,(.tail _ (.tail _ (.tail _ (.head _)))),Cov.refl _⟩),(.inl ⟨.rd c 46 [],(.tail _ (.tail _ (.tail _ (.tail _ (.head _))))),Cov.refl _⟩),(.inl ⟨.rd (some ⟨C,0,none⟩) 17 [(kc54 q r u s v d m.length k z A B e n.length l a i.length f b j.length g c h o)],(.tail _ (.tail _ (.tail _ (.tail _ (.tail _ (.head _)))))),Cov.refl _⟩),trivial⟩),rfl,rfl,trivial⟩) ?_
 intro _
 have hy := Option.some.inj hm
 subst hy
 refine GS.ret (fn := Try.f7) [8] [.agg ((kc9)).toArray] [(p 1).x = (p 1).x] rfl Try.func7 (by kernel_rfl) ⟨rfl,trivial⟩ (fun w' hs => ?_)
 exact ⟨(),rfl,hs.turnedG (ks := []) rfl rfl⟩

theorem w_slices_Clone___int_int__3 (F : Nat) {y : Unit} (hm : m_slices_Clone___int_int__3 F = some y) : CallG Try.prog 41 #[.slice none 0 0] (X := Unit) (fun (_ : Unit) => .slice none 0 0) [] [] (fun (_ : Unit) => []) := by
 intro w hg
 rw [m_slices_Clone___int_int__3] at hm
 refine GS.start (S := mayT [] []) (mem := []) Try.func41 rfl Try.ntmps41 (Nat.le_of_ble_eq_true rfl) (hg.start rfl) ?_
 refine GS.conv (env' := [(0,.slice none 0 0)]) rfl rfl ?_
 refine GS.seq ?_
 refine GS.tzM (fun _ => [(0,.slice none 0 0)]) [] ?_
 intro _
 refine GS.seq ?_
 refine GS.seq ?_
 refine GS.tzM (fun _ => [(0,.slice none 0 0),(4,.bool true)]) [] ?_
 intro _
 refine GS.cond (t := true) rfl rfl (fun _ => ?_) (fun hf => by cases hf)
 refine GS.seq ?_
 refine GS.tzM (fun _ => [(2,.slice none 0 0)]) [] ?_
 intro _
 have hy := Option.some.inj hm
 subst hy
 refine GS.ret (fn := Try.f41) [0] [.slice none 0 0] [] rfl Try.func41 (by kernel_rfl) trivial (fun w' hs => ?_)
 exact ⟨(),rfl,hs.turnedG (ks := []) rfl rfl⟩

end Go.Proofs.Ytjnbkhnebmlilaa
