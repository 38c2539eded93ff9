/-
 CHAPTER 18r: the functions do what their models say (11).
-/
import Derived.Test.YtjnbkhnebmlilaaE18r
import Derived.Test.YtjnbkhnebmlilaaW18rg
import Derived.Test.YtjnbkhnebmlilaaW18rj
set_option linter.unusedVariables false
set_option linter.unusedSimpArgs false
set_option maxRecDepth 100000
set_option maxHeartbeats 8000000
namespace Go.Proofs.Ytjnbkhnebmlilaa
open Go Go.RowKit Sx

theorem w___primary_Machine__to_5 (F E : Nat) (m n q l r z A B : Int) (d : Option Addr) (o : Nat) (s : List S_api_Entry) (a : Option Addr) (f : Nat) (j : List S_api_Last) (b : Option Addr) (g : Nat) (k : List S_api_Item) (c : Option Addr) (h e : Nat) (C D p G : Int) (i : Option Addr) (v : Nat) (t : List ByteArray) {y : Unit} (hm : m___primary_Machine__to_5 F m n q l r z A B s j k C D p G t = some y) : CallG Try.prog 31 #[pA E 0,vI 0,.agg ((kc71 G i t.length v)).toArray] (X := Unit) (fun (_ : Unit) => .agg ((kc73 l r q m n G i t.length v)).toArray) [] [r52 d s,r80 a j,r76 b k,.rd c 46 [],.rd (some ⟨e,0,none⟩) 61 [(kc83 l m n C D)],.rd (some ⟨E,0,none⟩) 17 [(kc82 m n q l r z A B d s.length o a j.length f b k.length g c h e p)],r9 i t] (fun (_ : Unit) => []) := by
 intro w hg
 rw [m___primary_Machine__to_5] at hm
 refine GS.start (S := mayT [] [r52 d s,r80 a j,r76 b k,.rd c 46 [],.rd (some ⟨e,0,none⟩) 61 [(kc83 l m n C D)],.rd (some ⟨E,0,none⟩) 17 [(kc82 m n q l r z A B d s.length o a j.length f b k.length g c h e p)],r9 i t]) (mem := [(1,r52 d s),(2,r80 a j),(3,r76 b k),(4,.rd c 46 []),(5,.rd (some ⟨e,0,none⟩) 61 [(kc83 l m n C D)]),(6,.rd (some ⟨E,0,none⟩) 17 [(kc82 m n q l r z A B d s.length o a j.length f b k.length g c h e p)]),(7,r9 i t)]) Try.func31 rfl Try.ntmps31 (Nat.le_of_ble_eq_true rfl) (hg.start rfl) ?_
 refine GS.conv (env' := [(0,pA E 0),(1,vI 0),(2,.agg ((kc71 G i t.length v)).toArray)]) rfl rfl ?_
 refine GS.seq ?_
 refine GS.tz (fun u => [(0,pA E 0),(1,vI 0),(5,pA ((u 0).x) 0),(6,pA ((u 1).x) 0)]) (fun u => [(1,r52 d s),(2,r80 a j),(3,r76 b k),(4,.rd c 46 []),(5,.rd (some ⟨e,0,none⟩) 61 [(kc83 l m n C D)]),(6,.rd (some ⟨E,0,none⟩) 17 [(kc82 m n q l r z A B d s.length o a j.length f b k.length g c h e p)]),(7,r9 i t),(8,.cells ((u 0).x) 57 (kc71 G i t.length v)),(9,.cells ((u 1).x) 57 (kc29))]) [(0,{ act := .new .var,key := some 8 }),(1,{ act := .new .var,key := some 9 })] ?_
 intro u
 refine GS.seq ?_
 refine GS.tg (fun _ => [(0,pA E 0),(5,pA ((u 0).x) 0),(6,pA ((u 1).x) 0)]) (fun _ => [(1,r52 d s),(2,r80 a j),(3,r76 b k),(4,.rd c 46 []),(5,.rd (some ⟨e,0,none⟩) 61 [(kc83 l m n C D)]),(6,.rd (some ⟨E,0,none⟩) 17 [(kc82 m n q l r z A B d s.length o a j.length f b k.length g c h e p)]),(7,r9 i t),(8,.cells ((u 0).x) 57 (kc72 l G i t.length v)),(9,.cells ((u 1).x) 57 (kc29))]) [(3,{ act := .load 6 0 3 [vI m,vI n,vI q,vI l,vI r,.slice none 0 0,vI z,vI A,vI B,.slice d s.length o,.slice a j.length f,.slice b k.length g,.slice c 0 h,pA e 0,.bool false,vI p,.bool true] }),(8,{ act := .store 0 0 [],key := some 8 }),(10,{ act := .store 0 0 [],key := some 8 })] (fun _ => [E = blk (some ⟨E,0,none⟩),3 = offs (some ⟨E,0,none⟩) + (0 * 17 + 3),([(kc82 m n q l r z A B d s.length o a j.length f b k.length g c h e p)] : List (List Value))[0]? = some [vI m,vI n,vI q,vI l,vI r,.slice none 0 0,vI z,vI A,vI B,.slice d s.length o,.slice a j.length f,.slice b k.length g,.slice c 0 h,pA e 0,.bool false,vI p,.bool true],(u 0).x = (u 0).x,oC (.agg #[vI 2,vI l]),(u 0).x = (u 0).x,oC (.agg #[vI 2,vI 0])]) (fun _ => ⟨rfl,rfl,rfl,rfl,rfl,rfl,rfl,trivial⟩) ?_
 intro _
 refine GS.seq ?_
 refine GS.region (env' := fun _ => [(5,pA ((u 0).x) 0),(6,pA ((u 1).x) 0)]) (mem' := fun _ => [(7,r9 i t),(8,.cells ((u 0).x) 57 (kc73 l r q m n G i t.length v)),(9,.cells ((u 1).x) 57 (kc29))]) (RunsTo.mkd [(3,{ act := .load 6 0 4 [vI m,vI n,vI q,vI l,vI r,.slice none 0 0,vI z,vI A,vI B,.slice d s.length o,.slice a j.length f,.slice b k.length g,.slice c 0 h,pA e 0,.bool false,vI p,.bool true] }),(7,{ act := .load 6 0 0 [vI m,vI n,vI q,vI l,vI r,.slice none 0 0,vI z,vI A,vI B,.slice d s.length o,.slice a j.length f,.slice b k.length g,.slice c 0 h,pA e 0,.bool false,vI p,.bool true] }),(11,{ act := .load 6 0 2 [vI m,vI n,vI q,vI l,vI r,.slice none 0 0,vI z,vI A,vI B,.slice d s.length o,.slice a j.length f,.slice b k.length g,.slice c 0 h,pA e 0,.bool false,vI p,.bool true] }),(13,{ act := .store 0 0 [],key := some 8 }),(15,{ act := .store 0 0 [],key := some 8 }),(17,{ act := .store 0 0 [],key := some 8 })] [5,6] [7,8,9] (fun _ => [E = blk (some ⟨E,0,none⟩),4 = offs (some ⟨E,0,none⟩) + (0 * 17 + 4),([(kc82 m n q l r z A B d s.length o a j.length f b k.length g c h e p)] : List (List Value))[0]? = some [vI m,vI n,vI q,vI l,vI r,.slice none 0 0,vI z,vI A,vI B,.slice d s.length o,.slice a j.length f,.slice b k.length g,.slice c 0 h,pA e 0,.bool false,vI p,.bool true],E = blk (some ⟨E,0,none⟩),0 = offs (some ⟨E,0,none⟩) + (0 * 17 + 0),([(kc82 m n q l r z A B d s.length o a j.length f b k.length g c h e p)] : List (List Value))[0]? = some [vI m,vI n,vI q,vI l,vI r,.slice none 0 0,vI z,vI A,vI B,.slice d s.length o,.slice a j.length f,.slice b k.length g,.slice c 0 h,pA e 0,.bool false,vI p,.bool true],E = blk (some ⟨E,0,none⟩),2 = offs (some ⟨E,0,none⟩) + (0 * 17 + 2),([(kc82 m n q l r z A B d s.length o a j.length f b k.length g c h e p)] : List (List Value))[0]? = some [vI m,vI n,vI q,vI l,vI r,.slice none 0 0,vI z,vI A,vI B,.slice d s.length o,.slice a j.length f,.slice b k.length g,.slice c 0 h,pA e 0,.bool false,vI p,.bool true],(u 0).x = (u 0).x,oC (vI r),(u 0).x = (u 0).x,oC (.agg #[vI m,vI n]),(u 0).x = (u 0).x,oC (vI q)]) (by kernel_rfl) (by kernel_rfl) (fun _ => by kernel_rfl) (fun _ => ⟨rfl,rfl,rfl,rfl,rfl,rfl,rfl,rfl,rfl,rfl,rfl,rfl,rfl,rfl,rfl,trivial⟩)) ?_
 intro _
 refine GS.seq ?_
 refine GS.tg (fun _ => [(6,pA ((u 1).x) 0)]) (fun _ => [(7,r9 i t),(9,.cells ((u 1).x) 57 (kc73 l r q m n G i t.length v))]) [(0,{ act := .load 8 0 0 [] }),(1,{ act := .store 0 0 [],key := some 9 })] (fun _ => [(u 0).x = (u 0).x,(u 1).x = (u 1).x,oC (.agg ((kc73 l r q m n G i t.length v)).toArray)]) (fun _ => ⟨rfl,rfl,rfl,trivial⟩) ?_
 intro _
 have hy := Option.some.inj hm
 subst hy
 refine GS.ret (fn := Try.f31) [9] [.agg ((kc73 l r q m n G i t.length v)).toArray] [(u 1).x = (u 1).x] rfl Try.func31 (by kernel_rfl) ⟨rfl,trivial⟩ (fun w' hs => ?_)
 exact ⟨(),rfl,hs.turnedG (ks := []) rfl rfl⟩

theorem w___primary_Machine__answer_3 (F G : Nat) (h i r j s C D E : Int) (k : Option Addr) (A : Nat) (z : List S_api_Entry) (d : Option Addr) (t : Nat) (p : List S_api_Last) (e : Option Addr) (u : Nat) (q : List S_api_Item) (f : Option Addr) (v l : Nat) (n o B m H : Int) (a : Option Addr) (g : Nat) (b : List ByteArray) {y : Unit} (hm : m___primary_Machine__answer_3 F h i r j s C D E z p q n o B m H b = some y) : CallG Try.prog 24 #[pA G 0,.agg ((kc51 j h i m)).toArray,.agg ((kc70 H a b.length g)).toArray] (X := Unit) (fun (_ : Unit) => .agg ((kc74 j s r h i m a b.length g)).toArray) [] [r52 k z,r80 d p,r76 e q,.rd f 46 [],.rd (some ⟨l,0,none⟩) 61 [(kc83 j h i n o)],.rd (some ⟨G,0,none⟩) 17 [(kc82 h i r j s C D E k z.length A d p.length t e q.length u f v l B)],r9 a b] (fun (_ : Unit) => []) := by
 intro w hg
 rw [m___primary_Machine__answer_3] at hm
 refine GS.start (S := mayT [] [r52 k z,r80 d p,r76 e q,.rd f 46 [],.rd (some ⟨l,0,none⟩) 61 [(kc83 j h i n o)],.rd (some ⟨G,0,none⟩) 17 [(kc82 h i r j s C D E k z.length A d p.length t e q.length u f v l B)],r9 a b]) (mem := [(1,r52 k z),(2,r80 d p),(3,r76 e q),(4,.rd f 46 []),(5,.rd (some ⟨l,0,none⟩) 61 [(kc83 j h i n o)]),(6,.rd (some ⟨G,0,none⟩) 17 [(kc82 h i r j s C D E k z.length A d p.length t e q.length u f v l B)]),(7,r9 a b)]) Try.func24 rfl Try.ntmps24 (Nat.le_of_ble_eq_true rfl) (hg.start rfl) ?_
 refine GS.conv (env' := [(0,pA G 0),(1,.agg ((kc51 j h i m)).toArray),(2,.agg ((kc70 H a b.length g)).toArray)]) rfl rfl ?_
 refine GS.seq ?_
 refine GS.tz (fun c => [(0,pA G 0),(4,pA ((c 0).x) 0),(5,pA ((c 1).x) 0),(6,pA ((c 2).x) 0)]) (fun c => [(1,r52 k z),(2,r80 d p),(3,r76 e q),(4,.rd f 46 []),(5,.rd (some ⟨l,0,none⟩) 61 [(kc83 j h i n o)]),(6,.rd (some ⟨G,0,none⟩) 17 [(kc82 h i r j s C D E k z.length A d p.length t e q.length u f v l B)]),(7,r9 a b),(8,.cells ((c 0).x) 57 (kc51 j h i m)),(9,.cells ((c 1).x) 57 (kc70 H a b.length g)),(10,.cells ((c 2).x) 57 (kc29))]) [(0,{ act := .new .var,key := some 8 }),(1,{ act := .new .var,key := some 9 }),(2,{ act := .new .var,key := some 10 })] ?_
 intro c
 refine GS.seq ?_
 refine GS.region (env' := fun _ => [(0,pA G 0),(4,pA ((c 0).x) 0),(5,pA ((c 1).x) 0),(6,pA ((c 2).x) 0)]) (mem' := fun _ => [(1,r52 k z),(2,r80 d p),(3,r76 e q),(4,.rd f 46 []),(5,.rd (some ⟨l,0,none⟩) 61 [(kc83 j h i n o)]),(6,.rd (some ⟨G,0,none⟩) 17 [(kc82 h i r j s C D E k z.length A d p.length t e q.length u f v l B)]),(7,r9 a b),(8,.cells ((c 0).x) 57 (kc51 j h i m)),(9,.cells ((c 1).x) 57 (kc71 m a b.length g)),(10,.cells ((c 2).x) 57 (kc29))]) (RunsTo.mkd [(1,{ act := .load 8 0 0 [] }),(3,{ act := .load 8 0 0 [] }),(5,{ act := .store 0 0 [],key := some 9 }),(7,{ act := .store 0 0 [],key := some 9 }),(9,{ act := .store 0 0 [],key := some 9 })] [0,4,5,6] [1,2,3,4,5,6,7,8,9,10] (fun _ => [(c 0).x = (c 0).x,(c 0).x = (c 0).x,(c 1).x = (c 1).x,oC (vI 31),(c 1).x = (c 1).x,oC (vI 70),(c 1).x = (c 1).x,oC (vI m)]) (by kernel_rfl) (by kernel_rfl) (fun _ => by kernel_rfl) (fun _ => ⟨rfl,rfl,rfl,rfl,rfl,rfl,rfl,rfl,trivial⟩)) ?_
 intro _
 refine GS.seq ?_
 refine bnd_elim hm (fun y4 e5 hm => ?_)
 refine GS.tg (fun _ => [(4,pA ((c 0).x) 0),(5,pA ((c 1).x) 0),(6,pA ((c 2).x) 0)]) (fun _ => [(7,r9 a b),(8,.cells ((c 0).x) 57 (kc51 j h i m)),(9,.cells ((c 1).x) 57 (kc73 j s r h i m a b.length g)),(10,.cells ((c 2).x) 57 (kc29))]) [(1,{ act := .load 9 0 0 [] }),(2,{ act := .call [1,2,3,4,5,6,7] (.agg ((kc73 j s r h i m a b.length g)).toArray) }),(3,{ act := .store 0 0 [],key := some 9 })] (fun _ => [(c 1).x = (c 1).x,CallOK Try.prog 31 #[pA G 0,vI 0,.agg ((kc71 m a b.length g)).toArray] (.agg ((kc73 j s r h i m a b.length g)).toArray) [some (r52 k z),some (r80 d p),some (r76 e q),some (.rd f 46 []),some (.rd (some ⟨l,0,none⟩) 61 [(kc83 j h i n o)]),some (.rd (some ⟨G,0,none⟩) 17 [(kc82 h i r j s C D E k z.length A d p.length t e q.length u f v l B)]),some (r9 a b)],(c 1).x = (c 1).x,oC (.agg ((kc73 j s r h i m a b.length g)).toArray)]) (fun _ => ⟨rfl,(by have h1 := w___primary_Machine__to_5 F G h i r j s C D E k A z d t p e u q f v l n o B m a g b e5; exact h1.ok ⟨(.inl ⟨r52 k z,.head _,Cov.refl _⟩),(.inl ⟨r80 d p,(.tail _ (.head _)),Cov.refl _⟩),(.inl ⟨r76 e q,(.tail _ (.tail _ (.head _))),Cov.refl _⟩),(.inl ⟨.rd f 46 [],(.tail _ (.tail _ (.tail _ (.head _)))),Cov.refl _⟩),(.inl ⟨.rd (some ⟨l,0,none⟩) 61 [(kc83 j h i n o)],(.tail _ (.tail _ (.tail _ (.tail _ (.head _))))),Cov.refl _⟩),(.inl ⟨.rd (some ⟨G,0,none⟩) 17 [(kc82 h i r j s C D E k z.length A d p.length t e q.length u f v l B)],(.tail _ (.tail _ (.tail _ (.tail _ (.tail _ (.head _)))))),Cov.refl _⟩),(.inl ⟨r9 a b,(.tail _ (.tail _ (.tail _ (.tail _ (.tail _ (.tail _ (.head _))))))),Cov.refl _⟩),trivial⟩),rfl,rfl,trivial⟩) ?_
 intro _
 refine GS.seq ?_
 refine GS.tg (fun _ => [(5,pA ((c 1).x) 0),(6,pA ((c 2).x) 0)]) (fun _ => [(7,r9 a b),(9,.cells ((c 1).x) 57 (kc74 j s r h i m a b.length g)),(10,.cells ((c 2).x) 57 (kc29))]) [(1,{ act := .load 8 0 0 [] }),(3,{ act := .store 0 0 [],key := some 9 })] (fun _ => [(c 0).x = (c 0).x,(c 1).x = (c 1).x,oC (.agg #[vI 3,vI 0])]) (fun _ => ⟨rfl,rfl,rfl,trivial⟩) ?_
 intro _
 refine GS.seq ?_
 refine GS.tg (fun _ => [(6,pA ((c 2).x) 0)]) (fun _ => [(7,r9 a b),(10,.cells ((c 2).x) 57 (kc74 j s r h i m a b.length g))]) [(0,{ act := .load 9 0 0 [] }),(1,{ act := .store 0 0 [],key := some 10 })] (fun _ => [(c 1).x = (c 1).x,(c 2).x = (c 2).x,oC (.agg ((kc74 j s r h i m a b.length g)).toArray)]) (fun _ => ⟨rfl,rfl,rfl,trivial⟩) ?_
 intro _
 have hy := Option.some.inj hm
 subst hy
 refine GS.ret (fn := Try.f24) [10] [.agg ((kc74 j s r h i m a b.length g)).toArray] [(c 2).x = (c 2).x] rfl Try.func24 (by kernel_rfl) ⟨rfl,trivial⟩ (fun w' hs => ?_)
 exact ⟨(),rfl,hs.turnedG (ks := []) rfl rfl⟩

theorem w___primary_Machine__done_5 (F H : Nat) (m n C o D O P Q : Int) (j : Option Addr) (z : Nat) (v : List S_api_Entry) (g : Option Addr) (s : Nat) (q : List S_api_Last) (a : Option Addr) (p : Nat) (e : List S_api_Item) (h : Option Addr) (u c : Nat) (d i G J : Int) {y : List ByteArray} (hm : m___primary_Machine__done_5 F m n C o D O P Q v q e d i G J = some y) : CallG Try.prog 29 #[pA H 0,.agg ((kc53 J)).toArray] (X := Option Addr × Nat × Option Addr × Nat) (fun ⟨x0,x1,x2,x3⟩ => .agg ((kc60 J x0 x1)).toArray) [.cells H 69 (kc82 m n C o D O P Q j v.length z g q.length s a e.length p h u c G)] [r52 j v,r80 g q,r76 a e,.rd h 46 [],.rd (some ⟨c,0,none⟩) 61 [(kc83 o m n d i)]] (fun ⟨x0,x1,x2,x3⟩ => [o9 x2 x3 y,.osl x0 x1 57 46 [(kc74 o D C m n d x2 y.length x3)],.cells H 69 (kc81 m n C o D O P Q j v.length z g q.length s a e.length p h u G)]) := by
 intro w hg
 rw [m___primary_Machine__done_5] at hm
 refine GS.start (S := mayT [.cells H 69 (kc82 m n C o D O P Q j v.length z g q.length s a e.length p h u c G)] [r52 j v,r80 g q,r76 a e,.rd h 46 [],.rd (some ⟨c,0,none⟩) 61 [(kc83 o m n d i)]]) (mem := [(1,.cells H 69 (kc82 m n C o D O P Q j v.length z g q.length s a e.length p h u c G)),(2,r52 j v),(3,r80 g q),(4,r76 a e),(5,.rd h 46 []),(6,.rd (some ⟨c,0,none⟩) 61 [(kc83 o m n d i)])]) Try.func29 rfl Try.ntmps29 (Nat.le_of_ble_eq_true rfl) (hg.start rfl) ?_
 refine GS.conv (env' := [(0,pA H 0),(1,.agg ((kc53 J)).toArray)]) rfl rfl ?_
 refine GS.seq ?_
 refine GS.tz (fun r => [(0,pA H 0),(3,pA ((r 0).x) 0),(4,pA ((r 1).x) 0)]) (fun r => [(1,.cells H 69 (kc82 m n C o D O P Q j v.length z g q.length s a e.length p h u c G)),(2,r52 j v),(3,r80 g q),(4,r76 a e),(5,.rd h 46 []),(6,.rd (some ⟨c,0,none⟩) 61 [(kc83 o m n d i)]),(7,.cells ((r 0).x) 60 (kc53 J)),(8,.cells ((r 1).x) 60 (kc9))]) [(0,{ act := .new .var,key := some 7 }),(1,{ act := .new .var,key := some 8 })] ?_
 intro r
 refine GS.seq ?_
 refine GS.tgM (fun _ => [(0,pA H 0),(3,pA ((r 0).x) 0),(4,pA ((r 1).x) 0),(5,pA c 0)]) [(3,{ act := .load 1 0 0 [] })] (fun _ => [H = H]) (fun _ => ⟨rfl,trivial⟩) ?_
 intro _
 refine GS.seq ?_
 refine GS.seq ?_
 refine GS.tgM (fun _ => [(0,pA H 0),(3,pA ((r 0).x) 0),(4,pA ((r 1).x) 0),(5,pA c 0),(25,.bool false)]) [(6,{ act := .load 6 0 59 [vI 30,vI 3,vI 0,vI 2,vI o,vI 0,vI 0,vI m,vI n,vI 70,vI d,vI 0,.slice none 0 0,.slice none 0 0,.slice none 0 0,vI 0,vI 0,vI 0,vI 0,vI 0,vI 0,vI 0,vI 0,vI 0,.slice none 0 0,.slice none 0 0,.slice none 0 0,vI 0,vI 0,.bool false,vI 0,.string (ByteArray.mk #[]),vI 0,vI 0,.string (ByteArray.mk #[]),vI 0,vI 0,.slice none 0 0,vI 5,.string (ByteArray.mk #[]),.slice none 0 0,vI 0,vI 0,.slice none 0 0,.slice none 0 0,vI 0,.bool false,vI 0,vI 0,.bool false,vI 0,.string (ByteArray.mk #[]),vI 0,vI 0,.string (ByteArray.mk #[]),vI 0,vI 0,.slice none 0 0,vI i,.slice none 0 0,.bool false] })] (fun _ => [c = blk (some ⟨c,0,none⟩),59 = offs (some ⟨c,0,none⟩) + (0 * 61 + 59),([(kc83 o m n d i)] : List (List Value))[0]? = some [vI 30,vI 3,vI 0,vI 2,vI o,vI 0,vI 0,vI m,vI n,vI 70,vI d,vI 0,.slice none 0 0,.slice none 0 0,.slice none 0 0,vI 0,vI 0,vI 0,vI 0,vI 0,vI 0,vI 0,vI 0,vI 0,.slice none 0 0,.slice none 0 0,.slice none 0 0,vI 0,vI 0,.bool false,vI 0,.string (ByteArray.mk #[]),vI 0,vI 0,.string (ByteArray.mk #[]),vI 0,vI 0,.slice none 0 0,vI 5,.string (ByteArray.mk #[]),.slice none 0 0,vI 0,vI 0,.slice none 0 0,.slice none 0 0,vI 0,.bool false,vI 0,vI 0,.bool false,vI 0,.string (ByteArray.mk #[]),vI 0,vI 0,.string (ByteArray.mk #[]),vI 0,vI 0,.slice none 0 0,vI i,.slice none 0 0,.bool false]]) (fun _ => ⟨rfl,rfl,rfl,trivial⟩) ?_
 intro _
 refine GS.cond (t := false) rfl rfl (fun hf => by cases hf) (fun _ => ?_)
 refine GS.skip ?_
 refine GS.seq ?_
 refine GS.tg (fun V => [(0,pA H 0),(3,pA ((r 0).x) 0),(4,pA ((r 1).x) 0),(5,pA c 0),(6,pA ((V 5).x) 0)]) (fun V => [(1,.cells H 69 (kc82 m n C o D O P Q j v.length z g q.length s a e.length p h u c G)),(2,r52 j v),(3,r80 g q),(4,r76 a e),(5,.rd h 46 []),(6,.rd (some ⟨c,0,none⟩) 61 [(kc83 o m n d i)]),(7,.cells ((r 0).x) 60 (kc53 J)),(8,.cells ((r 1).x) 60 (kc9)),(9,.cells ((V 5).x) 45 (kc67))]) [(4,{ act := .load 6 0 38 [vI 30,vI 3,vI 0,vI 2,vI o,vI 0,vI 0,vI m,vI n,vI 70,vI d,vI 0,.slice none 0 0,.slice none 0 0,.slice none 0 0,vI 0,vI 0,vI 0,vI 0,vI 0,vI 0,vI 0,vI 0,vI 0,.slice none 0 0,.slice none 0 0,.slice none 0 0,vI 0,vI 0,.bool false,vI 0,.string (ByteArray.mk #[]),vI 0,vI 0,.string (ByteArray.mk #[]),vI 0,vI 0,.slice none 0 0,vI 5,.string (ByteArray.mk #[]),.slice none 0 0,vI 0,vI 0,.slice none 0 0,.slice none 0 0,vI 0,.bool false,vI 0,vI 0,.bool false,vI 0,.string (ByteArray.mk #[]),vI 0,vI 0,.string (ByteArray.mk #[]),vI 0,vI 0,.slice none 0 0,vI i,.slice none 0 0,.bool false] }),(5,{ act := .new .var,key := some 9 }),(6,{ act := .store 0 0 [],key := some 9 })] (fun V => [c = blk (some ⟨c,0,none⟩),38 = offs (some ⟨c,0,none⟩) + (0 * 61 + 38),([(kc83 o m n d i)] : List (List Value))[0]? = some [vI 30,vI 3,vI 0,vI 2,vI o,vI 0,vI 0,vI m,vI n,vI 70,vI d,vI 0,.slice none 0 0,.slice none 0 0,.slice none 0 0,vI 0,vI 0,vI 0,vI 0,vI 0,vI 0,vI 0,vI 0,vI 0,.slice none 0 0,.slice none 0 0,.slice none 0 0,vI 0,vI 0,.bool false,vI 0,.string (ByteArray.mk #[]),vI 0,vI 0,.string (ByteArray.mk #[]),vI 0,vI 0,.slice none 0 0,vI 5,.string (ByteArray.mk #[]),.slice none 0 0,vI 0,vI 0,.slice none 0 0,.slice none 0 0,vI 0,.bool false,vI 0,vI 0,.bool false,vI 0,.string (ByteArray.mk #[]),vI 0,vI 0,.string (ByteArray.mk #[]),vI 0,vI 0,.slice none 0 0,vI i,.slice none 0 0,.bool false],(V 5).x = (V 5).x,oC (.agg ((kc67)).toArray)]) (fun V => ⟨rfl,rfl,rfl,rfl,rfl,trivial⟩) ?_
 intro V
 refine GS.seq ?_
 refine GS.tg (fun R => [(0,pA H 0),(3,pA ((r 0).x) 0),(4,pA ((r 1).x) 0),(5,pA c 0),(6,pA ((V 5).x) 0),(7,pA ((R 1).x) 0)]) (fun R => [(1,.cells H 69 (kc82 m n C o D O P Q j v.length z g q.length s a e.length p h u c G)),(2,r52 j v),(3,r80 g q),(4,r76 a e),(5,.rd h 46 []),(6,.rd (some ⟨c,0,none⟩) 61 [(kc83 o m n d i)]),(7,.cells ((r 0).x) 60 (kc53 J)),(8,.cells ((r 1).x) 60 (kc9)),(9,.cells ((V 5).x) 45 (kc67)),(10,.cells ((R 1).x) 57 (kc29))]) [(1,{ act := .new .var,key := some 10 }),(2,{ act := .store 0 0 [],key := some 10 })] (fun R => [(R 1).x = (R 1).x,oC (.agg ((kc29)).toArray)]) (fun R => ⟨rfl,rfl,trivial⟩) ?_
 intro R
 refine GS.seq ?_
 refine GS.block ?_
 refine GS.seq ?_
 refine GS.tgM (fun _ => [(0,pA H 0),(3,pA ((r 0).x) 0),(4,pA ((r 1).x) 0),(5,pA c 0),(6,pA ((V 5).x) 0),(7,pA ((R 1).x) 0),(53,.bool false)]) [(3,{ act := .load 6 0 46 [vI 30,vI 3,vI 0,vI 2,vI o,vI 0,vI 0,vI m,vI n,vI 70,vI d,vI 0,.slice none 0 0,.slice none 0 0,.slice none 0 0,vI 0,vI 0,vI 0,vI 0,vI 0,vI 0,vI 0,vI 0,vI 0,.slice none 0 0,.slice none 0 0,.slice none 0 0,vI 0,vI 0,.bool false,vI 0,.string (ByteArray.mk #[]),vI 0,vI 0,.string (ByteArray.mk #[]),vI 0,vI 0,.slice none 0 0,vI 5,.string (ByteArray.mk #[]),.slice none 0 0,vI 0,vI 0,.slice none 0 0,.slice none 0 0,vI 0,.bool false,vI 0,vI 0,.bool false,vI 0,.string (ByteArray.mk #[]),vI 0,vI 0,.string (ByteArray.mk #[]),vI 0,vI 0,.slice none 0 0,vI i,.slice none 0 0,.bool false] })] (fun _ => [c = blk (some ⟨c,0,none⟩),46 = offs (some ⟨c,0,none⟩) + (0 * 61 + 46),([(kc83 o m n d i)] : List (List Value))[0]? = some [vI 30,vI 3,vI 0,vI 2,vI o,vI 0,vI 0,vI m,vI n,vI 70,vI d,vI 0,.slice none 0 0,.slice none 0 0,.slice none 0 0,vI 0,vI 0,vI 0,vI 0,vI 0,vI 0,vI 0,vI 0,vI 0,.slice none 0 0,.slice none 0 0,.slice none 0 0,vI 0,vI 0,.bool false,vI 0,.string (ByteArray.mk #[]),vI 0,vI 0,.string (ByteArray.mk #[]),vI 0,vI 0,.slice none 0 0,vI 5,.string (ByteArray.mk #[]),.slice none 0 0,vI 0,vI 0,.slice none 0 0,.slice none 0 0,vI 0,.bool false,vI 0,vI 0,.bool false,vI 0,.string (ByteArray.mk #[]),vI 0,vI 0,.string (ByteArray.mk #[]),vI 0,vI 0,.slice none 0 0,vI i,.slice none 0 0,.bool false]]) (fun _ => ⟨rfl,rfl,rfl,trivial⟩) ?_
 intro _
 refine GS.cond (t := false) rfl rfl (fun hf => by cases hf) (fun _ => ?_)
 refine GS.seq ?_
 refine GS.tgM (fun _ => [(0,pA H 0),(3,pA ((r 0).x) 0),(4,pA ((r 1).x) 0),(5,pA c 0),(6,pA ((V 5).x) 0),(7,pA ((R 1).x) 0),(79,.bool true)]) [(1,{ act := .load 9 0 0 [] })] (fun _ => [(V 5).x = (V 5).x]) (fun _ => ⟨rfl,trivial⟩) ?_
 intro _
 refine GS.cond (t := true) rfl rfl (fun _ => ?_) (fun hf => by cases hf)
 refine GS.seq ?_
 refine GS.tg (fun _ => [(0,pA H 0),(3,pA ((r 0).x) 0),(4,pA ((r 1).x) 0),(5,pA c 0),(7,pA ((R 1).x) 0),(87,.slice a e.length p),(88,vI (e.length : Int)),(89,vI 0)]) (fun _ => [(1,.cells H 69 (kc82 m n C o D O P Q j v.length z g q.length s a e.length p h u c G)),(2,r52 j v),(3,r80 g q),(4,r76 a e),(5,.rd h 46 []),(6,.rd (some ⟨c,0,none⟩) 61 [(kc83 o m n d i)]),(7,.cells ((r 0).x) 60 (kc53 J)),(8,.cells ((r 1).x) 60 (kc9)),(10,.cells ((R 1).x) 57 (kc29))]) [(4,{ act := .load 1 0 0 [] })] (fun _ => [H = H]) (fun _ => ⟨rfl,trivial⟩) ?_
 intro _
 refine GS.block ?_
 refine GS.loop ?_
 refine grd_elim hm (fun Z hm => ?_)
 refine GS.setMem (mem' := [(1,.cells H 69 (kc82 m n C o D O P Q j v.length z g q.length s a e.length p h u c G)),(2,r52 j v),(3,r80 g q),(4,r76 a e),(5,.rd h 46 []),(6,.rd (some ⟨c,0,none⟩) 61 [(kc83 o m n d i)]),(7,.cells ((r 0).x) 60 (kc53 J)),(8,.cells ((r 1).x) 60 (kc9)),(10,.cells ((R 1).x) 57 (kc29)),(30001,o9 none 0 ([] : List ByteArray))]) (fun w hw => Sat.addNil hw rfl) ?_
 refine GS.rekey (env' := [(0,pA H 0),(3,pA ((r 0).x) 0),(4,pA ((r 1).x) 0),(5,pA c 0),(7,pA ((R 1).x) 0),(87,.slice a e.length p),(88,vI (e.length : Int)),(89,vI 0)]) (mem' := [(1,.cells H 69 (kc82 m n C o D O P Q j v.length z g q.length s a e.length p h u c G)),(2,r52 j v),(3,r80 g q),(4,r76 a e),(5,.rd h 46 []),(6,.rd (some ⟨c,0,none⟩) 61 [(kc83 o m n d i)]),(7,.cells ((r 0).x) 60 (kc53 J)),(8,.cells ((r 1).x) 60 (kc9)),(10,.cells ((R 1).x) 57 (kc29)),(30000,o9 none 0 ([] : List ByteArray))]) [0,3,4,5,7,87,88,89] [(1,1),(2,2),(3,3),(4,4),(5,5),(6,6),(7,7),(8,8),(10,10),(30000,30001)] (by kernel_rfl) (by kernel_rfl) rfl ?_
 refine loopL_elim hm (fun st45 fn46 hst47 hfn48 hm => ?_)
 refine GS.loopInv (ι := List S_api_Item × Nat × List ByteArray × Option Addr × Nat) (I := fun ⟨U,A,b,k,l⟩ => e.drop A = U ∧ loopL st45 fn46 U A b = some y) (μ := fun ⟨U,A,b,k,l⟩ => U.length) (E := fun ⟨U,A,b,k,l⟩ => [(0,pA H 0),(3,pA ((r 0).x) 0),(4,pA ((r 1).x) 0),(5,pA c 0),(7,pA ((R 1).x) 0),(87,.slice a e.length p),(88,vI (e.length : Int)),(89,vI (A : Int))]) (M := fun ⟨U,A,b,k,l⟩ => [(1,.cells H 69 (kc82 m n C o D O P Q j v.length z g q.length s a e.length p h u c G)),(2,r52 j v),(3,r80 g q),(4,r76 a e),(5,.rd h 46 []),(6,.rd (some ⟨c,0,none⟩) 61 [(kc83 o m n d i)]),(7,.cells ((r 0).x) 60 (kc53 J)),(8,.cells ((r 1).x) 60 (kc9)),(10,.cells ((R 1).x) 57 (kc69 k b.length l)),(30000,o9 k l b)]) ?_ ⟨e,0,([] : List ByteArray),none,0⟩ ⟨List.drop_zero ..,hm⟩
 rintro ⟨U,A,b,k,l⟩ ⟨W,hm⟩ Y
 cases U with
 | nil =>
  replace hm := (hfn48 _ _).symm.trans hm
  try dsimp only at hm
  refine GS.seq ?_
  refine GS.tzM (fun _ => [(0,pA H 0),(3,pA ((r 0).x) 0),(4,pA ((r 1).x) 0),(5,pA c 0),(7,pA ((R 1).x) 0),(87,.slice a e.length p),(88,vI (e.length : Int)),(89,vI (A : Int)),(90,.bool (decide ((A : Int) < (e.length : Int))))]) [] ?_
  intro _
  refine GS.seq ?_
  refine GS.cond (t := decide ((A : Int) < (e.length : Int))) rfl rfl (fun aa => absb aa (drop_dec0 W)) (fun _ => ?_)
  refine GS.exit rfl ?_
  refine GS.inBlock ?_
  refine GS.seq ?_
  refine bnd_elim hm (fun ae ab hm => ?_)
  refine GS.region (env' := fun B => [(0,pA H 0),(3,pA ((r 0).x) 0),(4,pA ((r 1).x) 0)]) (mem' := fun B => [(1,.cells H 69 (kc82 m n C o D O P Q j v.length z g q.length s a e.length p h u c G)),(2,r52 j v),(3,r80 g q),(4,r76 a e),(5,.rd h 46 []),(6,.rd (some ⟨c,0,none⟩) 61 [(kc83 o m n d i)]),(7,.cells ((r 0).x) 60 (kc60 J ((B 10).ob) ((B 10).cap))),(8,.cells ((r 1).x) 60 (kc9)),(30000,o9 k l b),(30002,.osl ((B 10).ob) ((B 10).cap) 57 46 ([(kc74 o D C m n d k b.length l)] : List (List Value)))]) (RunsTo.mkd [(1,{ act := .load 7 0 0 [] }),(6,{ act := .load 6 0 0 [vI 30,vI 3,vI 0,vI 2,vI o,vI 0,vI 0,vI m,vI n,vI 70,vI d,vI 0,.slice none 0 0,.slice none 0 0,.slice none 0 0,vI 0,vI 0,vI 0,vI 0,vI 0,vI 0,vI 0,vI 0,vI 0,.slice none 0 0,.slice none 0 0,.slice none 0 0,vI 0,vI 0,.bool false,vI 0,.string (ByteArray.mk #[]),vI 0,vI 0,.string (ByteArray.mk #[]),vI 0,vI 0,.slice none 0 0,vI 5,.string (ByteArray.mk #[]),.slice none 0 0,vI 0,vI 0,.slice none 0 0,.slice none 0 0,vI 0,.bool false,vI 0,vI 0,.bool false,vI 0,.string (ByteArray.mk #[]),vI 0,vI 0,.string (ByteArray.mk #[]),vI 0,vI 0,.slice none 0 0,vI i,.slice none 0 0,.bool false] }),(7,{ act := .load 10 0 0 [] }),(8,{ act := .call [1,2,3,4,5,6,30000] (.agg ((kc74 o D C m n d k b.length l)).toArray) }),(9,{ act := .new (.row 1 46),key := some 30001 }),(10,{ act := .app (some 30001),key := some 30002,spf := some (fun f => .slice (f.ob) 1 (f.cap)) }),(12,{ act := .store 0 0 [],key := some 7 })] [0,3,4] [1,2,3,4,5,6,7,8,30000,30002] (fun B => [(r 0).x = (r 0).x,c = blk (some ⟨c,0,none⟩),0 = offs (some ⟨c,0,none⟩) + (0 * 61 + 0),([(kc83 o m n d i)] : List (List Value))[0]? = some [vI 30,vI 3,vI 0,vI 2,vI o,vI 0,vI 0,vI m,vI n,vI 70,vI d,vI 0,.slice none 0 0,.slice none 0 0,.slice none 0 0,vI 0,vI 0,vI 0,vI 0,vI 0,vI 0,vI 0,vI 0,vI 0,.slice none 0 0,.slice none 0 0,.slice none 0 0,vI 0,vI 0,.bool false,vI 0,.string (ByteArray.mk #[]),vI 0,vI 0,.string (ByteArray.mk #[]),vI 0,vI 0,.slice none 0 0,vI 5,.string (ByteArray.mk #[]),.slice none 0 0,vI 0,vI 0,.slice none 0 0,.slice none 0 0,vI 0,.bool false,vI 0,vI 0,.bool false,vI 0,.string (ByteArray.mk #[]),vI 0,vI 0,.string (ByteArray.mk #[]),vI 0,vI 0,.slice none 0 0,vI i,.slice none 0 0,.bool false],(R 1).x = (R 1).x,CallOK Try.prog 24 #[pA H 0,.agg ((kc51 o m n d)).toArray,.agg ((kc69 k b.length l)).toArray] (.agg ((kc74 o D C m n d k b.length l)).toArray) [some (.cells H 69 (kc82 m n C o D O P Q j v.length z g q.length s a e.length p h u c G)),some (r52 j v),some (r80 g q),some (r76 a e),some (.rd h 46 []),some (.rd (some ⟨c,0,none⟩) 61 [(kc83 o m n d i)]),some (o9 k l b)],(some (Addr.mk (B 9).x 0 none)) = (some (Addr.mk (B 9).x 0 none)),1 = ([(kc74 o D C m n d k b.length l)] : List (List Value)).length,0 = 0,0 = 0,([(kc74 o D C m n d k b.length l)] : List (List Value)).length * (552 + 1) ≤ 70368744177664,((.slice ((B 10).ob) (0 + ([(kc74 o D C m n d k b.length l)] : List (List Value)).length) ((B 10).cap)) : Value) = .slice ((B 10).ob) 1 ((B 10).cap),(r 0).x = (r 0).x,oC (.slice ((B 10).ob) 1 ((B 10).cap))]) (by kernel_rfl) (by kernel_rfl) (fun B => by kernel_rfl) (fun B => ⟨rfl,rfl,rfl,rfl,rfl,(by have h1 := w___primary_Machine__answer_3 F H m n C o D O P Q j z v g s q a p e h u c d i G d 0 k l b ab; exact h1.ok ⟨(.inl ⟨r52 j v,(.tail _ (.head _)),Cov.refl _⟩),(.inl ⟨r80 g q,(.tail _ (.tail _ (.head _))),Cov.refl _⟩),(.inl ⟨r76 a e,(.tail _ (.tail _ (.tail _ (.head _)))),Cov.refl _⟩),(.inl ⟨.rd h 46 [],(.tail _ (.tail _ (.tail _ (.tail _ (.head _))))),Cov.refl _⟩),(.inl ⟨.rd (some ⟨c,0,none⟩) 61 [(kc83 o m n d i)],(.tail _ (.tail _ (.tail _ (.tail _ (.tail _ (.head _)))))),Cov.refl _⟩),(.inl ⟨.cells H 69 (kc82 m n C o D O P Q j v.length z g q.length s a e.length p h u c G),.head _,Cov.cells_rd⟩),(.inl ⟨o9 k l b,(.tail _ (.tail _ (.tail _ (.tail _ (.tail _ (.tail _ (.head _))))))),Cov.osl_rd⟩),trivial⟩),rfl,rfl,rfl,rfl,(show 1 * (552 + 1) ≤ 70368744177664 by decide),rfl,rfl,rfl,trivial⟩)) ?_
  intro B
  refine GS.conv (mem' := [(1,.cells H 69 (kc82 m n C o D O P Q j v.length z g q.length s a e.length p h u c G)),(2,r52 j v),(3,r80 g q),(4,r76 a e),(5,.rd h 46 []),(6,.rd (some ⟨c,0,none⟩) 61 [(kc83 o m n d i)]),(7,.cells ((r 0).x) 60 (kc60 J ((B 10).ob) ((B 10).cap))),(8,.cells ((r 1).x) 60 (kc9)),(30000,o9 k l b),(30002,.osl ((B 10).ob) ((B 10).cap) 57 46 [(kc74 o D C m n d k b.length l)])]) rfl (congrArg (fun rr : List (List Value) => ([(1,.cells H 69 (kc82 m n C o D O P Q j v.length z g q.length s a e.length p h u c G)),(2,r52 j v),(3,r80 g q),(4,r76 a e),(5,.rd h 46 []),(6,.rd (some ⟨c,0,none⟩) 61 [(kc83 o m n d i)]),(7,.cells ((r 0).x) 60 (kc60 J ((B 10).ob) ((B 10).cap))),(8,.cells ((r 1).x) 60 (kc9)),(30000,o9 k l b),(30002,.osl ((B 10).ob) ((B 10).cap) 57 46 rr)] : List (Nat × Ent))) (show ([(kc74 o D C m n d k b.length l)] : List (List Value)) = ([(kc74 o D C m n d k b.length l)] : List (List Value)) from rfl)) ?_
  refine GS.seq ?_
  refine GS.tg (fun _ => [(3,pA ((r 0).x) 0),(4,pA ((r 1).x) 0)]) (fun _ => [(1,.cells H 69 (kc81 m n C o D O P Q j v.length z g q.length s a e.length p h u G)),(2,r52 j v),(3,r80 g q),(4,r76 a e),(5,.rd h 46 []),(7,.cells ((r 0).x) 60 (kc60 J ((B 10).ob) ((B 10).cap))),(8,.cells ((r 1).x) 60 (kc9)),(30000,o9 k l b),(30002,.osl ((B 10).ob) ((B 10).cap) 57 46 [(kc74 o D C m n d k b.length l)])]) [(3,{ act := .store 0 0 [],key := some 1 })] (fun _ => [H = H,oC (.pointer none)]) (fun _ => ⟨rfl,rfl,trivial⟩) ?_
  intro _
  refine GS.seq ?_
  refine GS.tg (fun _ => [(4,pA ((r 1).x) 0)]) (fun _ => [(1,.cells H 69 (kc81 m n C o D O P Q j v.length z g q.length s a e.length p h u G)),(2,r52 j v),(3,r80 g q),(4,r76 a e),(5,.rd h 46 []),(8,.cells ((r 1).x) 60 (kc60 J ((B 10).ob) ((B 10).cap))),(30000,o9 k l b),(30002,.osl ((B 10).ob) ((B 10).cap) 57 46 [(kc74 o D C m n d k b.length l)])]) [(0,{ act := .load 7 0 0 [] }),(1,{ act := .store 0 0 [],key := some 8 })] (fun _ => [(r 0).x = (r 0).x,(r 1).x = (r 1).x,oC (.agg ((kc60 J ((B 10).ob) ((B 10).cap))).toArray)]) (fun _ => ⟨rfl,rfl,rfl,trivial⟩) ?_
  intro _
  have hy := Option.some.inj hm
  subst hy
  refine GS.ret (fn := Try.f29) [8] [.agg ((kc60 J ((B 10).ob) ((B 10).cap))).toArray] [(r 1).x = (r 1).x] rfl Try.func29 (by kernel_rfl) ⟨rfl,trivial⟩ (fun w' hs => ?_)
  exact ⟨⟨(B 10).ob,(B 10).cap,k,l⟩,rfl,hs.turnedG (ks := [30000,30002,1]) rfl rfl⟩
 | cons L U =>
  replace hm := (hst47 _ _ _ _).symm.trans hm
  try dsimp only at hm
  refine GS.seq ?_
  refine GS.tzM (fun _ => [(0,pA H 0),(3,pA ((r 0).x) 0),(4,pA ((r 1).x) 0),(5,pA c 0),(7,pA ((R 1).x) 0),(87,.slice a e.length p),(88,vI (e.length : Int)),(89,vI (A : Int)),(90,.bool (decide ((A : Int) < (e.length : Int))))]) [] ?_
  intro _
  refine GS.seq ?_
  refine GS.cond (t := decide ((A : Int) < (e.length : Int))) rfl rfl (fun _ => ?_) (fun ac => absb (drop_dec W) ac)
  refine GS.skip ?_
  refine GS.seq ?_
  refine GS.block ?_
  refine GS.seq ?_
  refine GS.tg (fun T => [(0,pA H 0),(3,pA ((r 0).x) 0),(4,pA ((r 1).x) 0),(5,pA c 0),(7,pA ((R 1).x) 0),(9,pA ((T 2).x) 0),(87,.slice a e.length p),(88,vI (e.length : Int)),(89,vI (A : Int))]) (fun T => [(1,.cells H 69 (kc82 m n C o D O P Q j v.length z g q.length s a e.length p h u c G)),(2,r52 j v),(3,r80 g q),(4,r76 a e),(5,.rd h 46 []),(6,.rd (some ⟨c,0,none⟩) 61 [(kc83 o m n d i)]),(7,.cells ((r 0).x) 60 (kc53 J)),(8,.cells ((r 1).x) 60 (kc9)),(10,.cells ((R 1).x) 57 (kc69 k b.length l)),(30000,o9 k l b),(30001,.cells ((T 2).x) 76 (kc45 L.Name L.Version.Epoch L.Version.N L.Crc))]) [(0,{ act := .idx 4 A }),(1,{ act := .load 4 A 0 [.string L.Name,vI L.Version.Epoch,vI L.Version.N,.int .u32 L.Crc] }),(2,{ act := .new .var,key := some 30001 }),(3,{ act := .store 0 0 [],key := some 30001 })] (fun T => [a = a,e.length = (List.map S_api_Item.row e).length,((A : Int) : Int) = (A : Int),A < e.length,blk a = blk a,offs a + A * 4 = offs a + (A * 4 + 0),(List.map S_api_Item.row e)[A]? = some [.string L.Name,vI L.Version.Epoch,vI L.Version.N,.int .u32 L.Crc],(T 2).x = (T 2).x,oC (.agg ((kc45 L.Name L.Version.Epoch L.Version.N L.Crc)).toArray)]) (fun T => ⟨rfl,mlen S_api_Item.row e,rfl,(drop_lt W),rfl,rfl,map_drop S_api_Item.row W,rfl,rfl,trivial⟩) ?_
  intro T
  refine grd_elim hm (fun ad hm => ?_)
  refine GS.tg (fun K => [(0,pA H 0),(3,pA ((r 0).x) 0),(4,pA ((r 1).x) 0),(5,pA c 0),(7,pA ((R 1).x) 0),(87,.slice a e.length p),(88,vI (e.length : Int)),(89,vI (A : Int))]) (fun K => [(1,.cells H 69 (kc82 m n C o D O P Q j v.length z g q.length s a e.length p h u c G)),(2,r52 j v),(3,r80 g q),(4,r76 a e),(5,.rd h 46 []),(6,.rd (some ⟨c,0,none⟩) 61 [(kc83 o m n d i)]),(7,.cells ((r 0).x) 60 (kc53 J)),(8,.cells ((r 1).x) 60 (kc9)),(10,.cells ((R 1).x) 57 (kc69 ((K 5).ob) ((b ++ [L.Name]).length) ((K 5).cap))),(30000,.osl ((K 5).ob) ((K 5).cap) 9 1 ((List.map rS b) ++ ([[.string L.Name]] : List (List Value))))]) [(1,{ act := .load 10 0 0 [] }),(3,{ act := .load 30001 0 0 [] }),(4,{ act := .new (.row 1 1),key := some 30002 }),(5,{ act := .app (some 30002),key := some 30000,spf := some (fun f => .slice (f.ob) ((b ++ [L.Name]).length) (f.cap)) }),(7,{ act := .store 0 0 [],key := some 10 })] (fun K => [(R 1).x = (R 1).x,(T 2).x = (T 2).x,(some (Addr.mk (K 4).x 0 none)) = (some (Addr.mk (K 4).x 0 none)),1 = ([[.string L.Name]] : List (List Value)).length,k = k,l = l,b.length = (List.map rS b).length,((List.map rS b).length + ([[.string L.Name]] : List (List Value)).length) * (16 + 1) ≤ 70368744177664,([[.string L.Name]] : List (List Value)).flatten.all Value.oneCell' = true,((.slice ((K 5).ob) (b.length + ([[.string L.Name]] : List (List Value)).length) ((K 5).cap)) : Value) = .slice ((K 5).ob) ((b ++ [L.Name]).length) ((K 5).cap),(R 1).x = (R 1).x,oC (.slice ((K 5).ob) ((b ++ [L.Name]).length) ((K 5).cap))]) (fun K => ⟨rfl,rfl,rfl,rfl,rfl,rfl,mlen rS b,appb ad (mlen rS b).symm (by rw [show ([[.string L.Name]] : List (List Value)) = List.map rS [L.Name] from rfl]; exact (mlen rS [L.Name]).symm),(by rw [show ([[.string L.Name]] : List (List Value)) = List.map rS [L.Name] from (show ([[.string L.Name]] : List (List Value)) = List.map rS [L.Name] from rfl)]; exact all_one rS _ (fun _ => rfl)),slen (by simp),rfl,rfl,trivial⟩) ?_
  intro K
  refine GS.conv (mem' := [(1,.cells H 69 (kc82 m n C o D O P Q j v.length z g q.length s a e.length p h u c G)),(2,r52 j v),(3,r80 g q),(4,r76 a e),(5,.rd h 46 []),(6,.rd (some ⟨c,0,none⟩) 61 [(kc83 o m n d i)]),(7,.cells ((r 0).x) 60 (kc53 J)),(8,.cells ((r 1).x) 60 (kc9)),(10,.cells ((R 1).x) 57 (kc69 ((K 5).ob) ((b ++ [L.Name]).length) ((K 5).cap))),(30000,o9 ((K 5).ob) ((K 5).cap) (b ++ [L.Name]))]) rfl (congrArg (fun rr : List (List Value) => ([(1,.cells H 69 (kc82 m n C o D O P Q j v.length z g q.length s a e.length p h u c G)),(2,r52 j v),(3,r80 g q),(4,r76 a e),(5,.rd h 46 []),(6,.rd (some ⟨c,0,none⟩) 61 [(kc83 o m n d i)]),(7,.cells ((r 0).x) 60 (kc53 J)),(8,.cells ((r 1).x) 60 (kc9)),(10,.cells ((R 1).x) 57 (kc69 ((K 5).ob) ((b ++ [L.Name]).length) ((K 5).cap))),(30000,.osl ((K 5).ob) ((K 5).cap) 9 1 rr)] : List (Nat × Ent))) (show (List.map rS b) ++ ([[.string L.Name]] : List (List Value)) = List.map rS (b ++ [L.Name]) from (by rw [show List.map rS b = List.map rS b from rfl,show ([[.string L.Name]] : List (List Value)) = List.map rS [L.Name] from (show ([[.string L.Name]] : List (List Value)) = List.map rS [L.Name] from rfl)]; exact mapp rS _ _))) ?_
  refine GS.inBlock ?_
  refine GS.tgM (fun _ => [(0,pA H 0),(3,pA ((r 0).x) 0),(4,pA ((r 1).x) 0),(5,pA c 0),(7,pA ((R 1).x) 0),(87,.slice a e.length p),(88,vI (e.length : Int)),(89,vI ((A + 1 : Nat) : Int))]) [(0,{ sp := some (vI ((A + 1 : Nat) : Int)) })] (fun _ => [((vI (IntKind.i64.wrap ((A : Int) + 1))) : Value) = vI ((A + 1 : Nat) : Int)]) (fun _ => ⟨natw (drop_lt W) Z,trivial⟩) ?_
  intro _
  refine GS.inLoop ?_
  refine GS.rekey (env' := [(0,pA H 0),(3,pA ((r 0).x) 0),(4,pA ((r 1).x) 0),(5,pA c 0),(7,pA ((R 1).x) 0),(87,.slice a e.length p),(88,vI (e.length : Int)),(89,vI ((A + 1 : Nat) : Int))]) (mem' := [(1,.cells H 69 (kc82 m n C o D O P Q j v.length z g q.length s a e.length p h u c G)),(2,r52 j v),(3,r80 g q),(4,r76 a e),(5,.rd h 46 []),(6,.rd (some ⟨c,0,none⟩) 61 [(kc83 o m n d i)]),(7,.cells ((r 0).x) 60 (kc53 J)),(8,.cells ((r 1).x) 60 (kc9)),(10,.cells ((R 1).x) 57 (kc69 ((K 5).ob) ((b ++ [L.Name]).length) ((K 5).cap))),(30000,o9 ((K 5).ob) ((K 5).cap) (b ++ [L.Name]))]) [0,3,4,5,7,87,88,89] [(1,1),(2,2),(3,3),(4,4),(5,5),(6,6),(7,7),(8,8),(10,10),(30000,30000)] (by kernel_rfl) (by kernel_rfl) rfl ?_
  exact Y ⟨U,A + 1,(b ++ [L.Name]),(K 5).ob,(K 5).cap⟩ ⟨drop_next W,hm⟩ (Nat.lt_succ_self _)

theorem w___primary_Machine__read_2 (F s : Nat) (n o B p C D E G : Int) (d : Option Addr) (u : Nat) (r : List S_api_Entry) (a : Option Addr) (k : Nat) (e : List S_api_Last) (b : Option Addr) (l : Nat) (f : List S_api_Item) (c : Option Addr) (m : Nat) (j A z : Int) {y : List ByteArray × Int} (hm : m___primary_Machine__read_2 F n o B p C D E G r e f j A z = some y) : CallG Try.prog 34 #[pA s 0,.agg ((kc51 p n o A)).toArray,.agg ((kc53 z)).toArray] (X := Option Addr × Nat × Option Addr × Nat) (fun ⟨x0,x1,x2,x3⟩ => .agg ((kc60 z x0 x1)).toArray) [.cells s 69 (kc81 n o B p C D E G d r.length u a e.length k b f.length l c m j)] [r52 d r,r80 a e,r76 b f,.rd c 46 []] (fun ⟨x0,x1,x2,x3⟩ => [o9 x2 x3 y.1,.osl x0 x1 57 46 [(kc74 p C B n o A x2 y.1.length x3)],.cells s 69 (kc81 n o B p C D E G d r.length u a e.length k b f.length l c m y.2)]) := by
 intro w hg
 rw [m___primary_Machine__read_2] at hm
 refine GS.start (S := mayT [.cells s 69 (kc81 n o B p C D E G d r.length u a e.length k b f.length l c m j)] [r52 d r,r80 a e,r76 b f,.rd c 46 []]) (mem := [(1,.cells s 69 (kc81 n o B p C D E G d r.length u a e.length k b f.length l c m j)),(2,r52 d r),(3,r80 a e),(4,r76 b f),(5,.rd c 46 [])]) Try.func34 rfl Try.ntmps34 (Nat.le_of_ble_eq_true rfl) (hg.start rfl) ?_
 refine GS.conv (env' := [(0,pA s 0),(1,.agg ((kc51 p n o A)).toArray),(2,.agg ((kc53 z)).toArray)]) rfl rfl ?_
 refine GS.seq ?_
 refine GS.tz (fun q => [(0,pA s 0),(4,pA ((q 0).x) 0),(5,pA ((q 1).x) 0),(6,pA ((q 2).x) 0)]) (fun q => [(1,.cells s 69 (kc81 n o B p C D E G d r.length u a e.length k b f.length l c m j)),(2,r52 d r),(3,r80 a e),(4,r76 b f),(5,.rd c 46 []),(6,.cells ((q 0).x) 57 (kc51 p n o A)),(7,.cells ((q 1).x) 60 (kc53 z)),(8,.cells ((q 2).x) 60 (kc9))]) [(0,{ act := .new .var,key := some 6 }),(1,{ act := .new .var,key := some 7 }),(2,{ act := .new .var,key := some 8 })] ?_
 intro q
 refine GS.seq ?_
 refine grd_elim hm (fun g3 hm => ?_)
 refine GS.tg (fun _ => [(0,pA s 0),(4,pA ((q 0).x) 0),(5,pA ((q 1).x) 0),(6,pA ((q 2).x) 0)]) (fun _ => [(1,.cells s 69 (kc81 n o B p C D E G d r.length u a e.length k b f.length l c m (j + 1))),(2,r52 d r),(3,r80 a e),(4,r76 b f),(5,.rd c 46 []),(6,.cells ((q 0).x) 57 (kc51 p n o A)),(7,.cells ((q 1).x) 60 (kc53 z)),(8,.cells ((q 2).x) 60 (kc9))]) [(3,{ act := .load 1 0 0 [] }),(4,{ sp := some (vI (j + 1)) }),(7,{ act := .store 0 0 [],key := some 1 })] (fun _ => [s = s,oW (j + 1),s = s,oC (vI (j + 1))]) (fun _ => ⟨rfl,I64.w g3,rfl,rfl,trivial⟩) ?_
 intro _
 refine GS.seq ?_
 refine bnd_elim hm (fun y5 e6 hm => ?_)
 refine GS.region (env' := fun H => [(0,pA s 0),(5,pA ((q 1).x) 0),(6,pA ((q 2).x) 0)]) (mem' := fun H => [(1,.cells s 69 (kc82 n o B p C D E G d r.length u a e.length k b f.length l c m ((H 12).x) (j + 1))),(2,r52 d r),(3,r80 a e),(4,r76 b f),(5,.rd c 46 []),(7,.cells ((q 1).x) 60 (kc53 z)),(8,.cells ((q 2).x) 60 (kc9)),(9,.cells ((H 12).x) 87 (kc83 p n o A (j + 1)))]) (RunsTo.mkd [(1,{ act := .load 6 0 0 [] }),(5,{ act := .load 1 0 0 [] }),(9,{ act := .load 1 0 0 [] }),(10,{ act := .call [] (.slice none 0 0) }),(12,{ act := .new .var,key := some 9 }),(15,{ act := .store 0 0 [],key := some 1 })] [0,5,6] [1,2,3,4,5,7,8,9] (fun H => [(q 0).x = (q 0).x,s = s,s = s,CallOK Try.prog 41 #[.slice none 0 0] (.slice none 0 0) [],s = s,oC (pA ((H 12).x) 0)]) (by kernel_rfl) (by kernel_rfl) (fun H => by kernel_rfl) (fun H => ⟨rfl,rfl,rfl,(by have h1 := w_slices_Clone___int_int__3 F  e6; exact h1.ok trivial),rfl,rfl,trivial⟩)) ?_
 intro H
 refine GS.seq ?_
 refine GS.seq ?_
 refine GS.tgM (fun _ => [(0,pA s 0),(5,pA ((q 1).x) 0),(6,pA ((q 2).x) 0),(37,.slice none 0 0),(38,vI 0),(39,vI 0)]) [(3,{ act := .load 1 0 0 [] }),(6,{ act := .load 9 0 0 [] })] (fun _ => [s = s,(H 12).x = (H 12).x]) (fun _ => ⟨rfl,rfl,trivial⟩) ?_
 intro _
 refine GS.block ?_
 refine GS.loop ?_
 refine GS.seq ?_
 refine GS.tzM (fun _ => [(0,pA s 0),(5,pA ((q 1).x) 0),(6,pA ((q 2).x) 0),(37,.slice none 0 0),(38,vI 0),(39,vI 0),(40,.bool false)]) [] ?_
 intro _
 refine GS.seq ?_
 refine GS.cond (t := false) rfl rfl (fun hf => by cases hf) (fun _ => ?_)
 refine GS.exit rfl ?_
 refine GS.seq ?_
 refine bnd_elim hm (fun M N hm => ?_)
 refine GS.open_ ?_
 refine GR.ru (i := 0) 2 (env' := fun _ => [(6,pA ((q 2).x) 0),(52,pA s 0),(53,.agg ((kc53 z)).toArray)]) (mem' := fun _ => [(1,.cells s 69 (kc82 n o B p C D E G d r.length u a e.length k b f.length l c m ((H 12).x) (j + 1))),(2,r52 d r),(3,r80 a e),(4,r76 b f),(5,.rd c 46 []),(8,.cells ((q 2).x) 60 (kc9)),(9,.cells ((H 12).x) 87 (kc83 p n o A (j + 1)))]) (by kernel_rfl) (RunsTo.mk [(1,{ act := .load 7 0 0 [] })] [6,52,53] [1,2,3,4,5,8,9] (fun _ => [(q 1).x = (q 1).x]) (fun _ => by kernel_rfl) (fun _ => ⟨rfl,trivial⟩)) ?_
 intro _
 refine GR.callG (X := Option Addr × Nat × Option Addr × Nat) (i := 2) (g := 29) (args := #[pA s 0,.agg ((kc53 z)).toArray]) (v := fun ⟨I,J,K,L⟩ => .agg ((kc60 z I J)).toArray) (own := [.cells s 69 (kc82 n o B p C D E G d r.length u a e.length k b f.length l c m ((H 12).x) (j + 1))]) (ro := [r52 d r,r80 a e,r76 b f,.rd c 46 [],.rd (some ⟨(H 12).x,0,none⟩) 61 [(kc83 p n o A (j + 1))]]) (es' := fun ⟨I,J,K,L⟩ => [o9 K L M,.osl I J 57 46 [(kc74 p C B n o A K M.length L)],.cells s 69 (kc81 n o B p C D E G d r.length u a e.length k b f.length l c m (j + 1))]) (mem' := fun ⟨I,J,K,L⟩ => [(1,.cells s 69 (kc81 n o B p C D E G d r.length u a e.length k b f.length l c m (j + 1))),(2,r52 d r),(3,r80 a e),(4,r76 b f),(5,.rd c 46 []),(8,.cells ((q 2).x) 60 (kc9)),(9,.cells ((H 12).x) 87 (kc83 p n o A (j + 1))),(10,.osl I J 57 46 [(kc74 p C B n o A K M.length L)]),(11,o9 K L M)]) (env' := fun ⟨I,J,K,L⟩ => [(6,pA ((q 2).x) 0),(54,.agg ((kc60 z I J)).toArray)]) [1] [11,10,1] [6,54] [1,2,3,4,5,8,9,10,11] false (by kernel_rfl) (by kernel_rfl) (by kernel_rfl) (by kernel_rfl) (by kernel_rfl) (fun _ => rfl) (fun _ _ => rfl) ⟨(.inl ⟨2,_,rfl,rfl,Cov.refl _,fun h => by cases h⟩),(.inl ⟨3,_,rfl,rfl,Cov.refl _,fun h => by cases h⟩),(.inl ⟨4,_,rfl,rfl,Cov.refl _,fun h => by cases h⟩),(.inl ⟨5,_,rfl,rfl,Cov.refl _,fun h => by cases h⟩),(.inl ⟨9,_,rfl,rfl,Cov.cells_rd,fun h => by cases h⟩),trivial⟩ (by rintro ⟨I,J,K,L⟩; kernel_rfl) (by rintro ⟨I,J,K,L⟩; kernel_rfl) ((by have h1 := w___primary_Machine__done_5 F s n o B p C D E G d u r a k e b l f c m (H 12).x A (j + 1) (j + 1) z N; exact h1)) ?_
 rintro ⟨I,J,K,L⟩
 refine GR.ru (i := 3) 1 (env' := fun _ => [(6,pA ((q 2).x) 0)]) (mem' := fun _ => [(1,.cells s 69 (kc81 n o B p C D E G d r.length u a e.length k b f.length l c m (j + 1))),(2,r52 d r),(3,r80 a e),(4,r76 b f),(5,.rd c 46 []),(8,.cells ((q 2).x) 60 (kc60 z I J)),(10,.osl I J 57 46 [(kc74 p C B n o A K M.length L)]),(11,o9 K L M)]) (by kernel_rfl) (RunsTo.mk [(3,{ act := .store 0 0 [],key := some 8 })] [6] [1,2,3,4,5,8,10,11] (fun _ => [(q 2).x = (q 2).x,oC (.agg ((kc60 z I J)).toArray)]) (fun _ => by kernel_rfl) (fun _ => ⟨rfl,rfl,trivial⟩)) ?_
 intro _
 refine GR.dn (by kernel_rfl) ?_
 have hy := Option.some.inj hm
 subst hy
 refine GS.ret (fn := Try.f34) [8] [.agg ((kc60 z I J)).toArray] [(q 2).x = (q 2).x] rfl Try.func34 (by kernel_rfl) ⟨rfl,trivial⟩ (fun w' hs => ?_)
 exact ⟨⟨I,J,K,L⟩,rfl,hs.turnedG (ks := [11,10,1]) rfl rfl⟩

theorem w___primary_Machine__begin_6 (F r : Nat) (o p C q D E G H : Int) (j : Option Addr) (B : Nat) (z : List S_api_Entry) (e : Option Addr) (s : Nat) (m : List S_api_Last) (f : Option Addr) (u : Nat) (n : List S_api_Item) (c : Option Addr) (b : Nat) (d I A : Int) (Q : 1 ≤ b) {y : List ByteArray × Int} (hm : m___primary_Machine__begin_6 F o p C q D E G H z m n d I A = some y) : CallG Try.prog 27 #[pA r 0,.agg ((kc53 A)).toArray] (X := Option Addr × Nat × Option Addr × Nat × Option Addr × Nat) (fun ⟨x0,x1,x2,x3,x4,x5⟩ => .agg ((kc60 A x0 x1)).toArray) [.osl c b 57 46 [(kc51 q o p d)],.cells r 69 (kc80 o p C q D E G H j z.length B e m.length s f n.length u c b I)] [r52 j z,r80 e m,r76 f n] (fun ⟨x0,x1,x2,x3,x4,x5⟩ => [o9 x2 x3 y.1,.osl x0 x1 57 46 [(kc74 q D C o p d x2 y.1.length x3)],.osl x4 x5 57 46 [],.cells r 69 (kc81 o p C q D E G H j z.length B e m.length s f n.length u x4 x5 y.2)]) := by
 intro w hg
 rw [m___primary_Machine__begin_6] at hm
 refine GS.start (S := mayT [.osl c b 57 46 [(kc51 q o p d)],.cells r 69 (kc80 o p C q D E G H j z.length B e m.length s f n.length u c b I)] [r52 j z,r80 e m,r76 f n]) (mem := [(1,.osl c b 57 46 [(kc51 q o p d)]),(2,.cells r 69 (kc80 o p C q D E G H j z.length B e m.length s f n.length u c b I)),(3,r52 j z),(4,r80 e m),(5,r76 f n)]) Try.func27 rfl Try.ntmps27 (Nat.le_of_ble_eq_true rfl) (hg.start rfl) ?_
 refine GS.conv (env' := [(0,pA r 0),(1,.agg ((kc53 A)).toArray)]) rfl rfl ?_
 refine GS.seq ?_
 refine GS.tz (fun k => [(0,pA r 0),(3,pA ((k 0).x) 0),(4,pA ((k 1).x) 0)]) (fun k => [(1,.osl c b 57 46 [(kc51 q o p d)]),(2,.cells r 69 (kc80 o p C q D E G H j z.length B e m.length s f n.length u c b I)),(3,r52 j z),(4,r80 e m),(5,r76 f n),(6,.cells ((k 0).x) 60 (kc53 A)),(7,.cells ((k 1).x) 60 (kc9))]) [(0,{ act := .new .var,key := some 6 }),(1,{ act := .new .var,key := some 7 })] ?_
 intro k
 refine GS.seq ?_
 refine GS.block ?_
 refine GS.loop ?_
 refine GS.seq ?_
 refine GS.seq ?_
 refine GS.tgM (fun _ => [(0,pA r 0),(3,pA ((k 0).x) 0),(4,pA ((k 1).x) 0),(35,.bool true)]) [(3,{ act := .load 2 0 0 [] }),(9,{ act := .load 2 0 0 [] }),(16,{ act := .load 2 0 0 [] }),(22,{ act := .load 6 0 0 [] }),(27,{ act := .load 6 0 0 [] })] (fun _ => [r = r,r = r,r = r,(k 0).x = (k 0).x,(k 0).x = (k 0).x]) (fun _ => ⟨rfl,rfl,rfl,rfl,rfl,trivial⟩) ?_
 intro _
 refine GS.cond (t := true) rfl rfl (fun _ => ?_) (fun hf => by cases hf)
 refine GS.skip ?_
 refine GS.block ?_
 refine GS.seq ?_
 refine GS.tg (fun J => [(0,pA r 0),(3,pA ((k 0).x) 0),(4,pA ((k 1).x) 0),(5,pA ((J 6).x) 0)]) (fun J => [(1,.osl c b 57 46 [(kc51 q o p d)]),(2,.cells r 69 (kc80 o p C q D E G H j z.length B e m.length s f n.length u c b I)),(3,r52 j z),(4,r80 e m),(5,r76 f n),(6,.cells ((k 0).x) 60 (kc53 A)),(7,.cells ((k 1).x) 60 (kc9)),(8,.cells ((J 6).x) 57 (kc51 q o p d))]) [(3,{ act := .load 2 0 0 [] }),(4,{ act := .idx 1 0 }),(5,{ act := .load 1 0 0 [vI 30,vI 3,vI 0,vI 2,vI q,vI 0,vI 0,vI o,vI p,vI 70,vI d,vI 0,.slice none 0 0,.slice none 0 0,.slice none 0 0,vI 0,vI 0,vI 0,vI 0,vI 0,vI 0,vI 0,vI 0,vI 0,.slice none 0 0,.slice none 0 0,.slice none 0 0,vI 0,vI 0,.bool false,vI 0,.string (ByteArray.mk #[]),vI 0,vI 0,.string (ByteArray.mk #[]),vI 0,vI 0,.slice none 0 0,vI 5,.string (ByteArray.mk #[]),.slice none 0 0,vI 0,vI 0,.slice none 0 0,.slice none 0 0,vI 0] }),(6,{ act := .new .var,key := some 8 }),(7,{ act := .store 0 0 [],key := some 8 })] (fun J => [r = r,c = c,1 = ([(kc51 q o p d)] : List (List Value)).length,(0 : Int) = (0 : Int),0 < 1,blk c = blk c,offs c + 0 * 46 = offs c + (0 * 46 + 0),([(kc51 q o p d)] : List (List Value))[0]? = some [vI 30,vI 3,vI 0,vI 2,vI q,vI 0,vI 0,vI o,vI p,vI 70,vI d,vI 0,.slice none 0 0,.slice none 0 0,.slice none 0 0,vI 0,vI 0,vI 0,vI 0,vI 0,vI 0,vI 0,vI 0,vI 0,.slice none 0 0,.slice none 0 0,.slice none 0 0,vI 0,vI 0,.bool false,vI 0,.string (ByteArray.mk #[]),vI 0,vI 0,.string (ByteArray.mk #[]),vI 0,vI 0,.slice none 0 0,vI 5,.string (ByteArray.mk #[]),.slice none 0 0,vI 0,vI 0,.slice none 0 0,.slice none 0 0,vI 0],(J 6).x = (J 6).x,oC (.agg ((kc51 q o p d)).toArray)]) (fun J => ⟨rfl,rfl,rfl,rfl,(Nat.le_of_ble_eq_true rfl),rfl,rfl,rfl,rfl,rfl,trivial⟩) ?_
 intro J
 refine GS.seq ?_
 refine GS.open_ ?_
 refine GR.rM (i := 0) 8 (env' := fun _ => [(0,pA r 0),(3,pA ((k 0).x) 0),(4,pA ((k 1).x) 0),(5,pA ((J 6).x) 0),(47,.slice (cutOb c 1 b 46) 0 (b - 1)),(49,pA r 12)]) (by kernel_rfl) (RunsTo.mk [(4,{ act := .load 2 0 0 [] }),(5,{ act := .cut 1 1 b,sp := some (.slice (cutOb c 1 b 46) 0 (b - 1)) })] [0,3,4,5,47,49] [1,2,3,4,5,6,7,8] (fun _ => [r = r,1 = (1 : Int),1 = 1,b = b,1 ≤ 1,1 ≤ b,b ≤ b,(none : Option Operand) = none → (none : Option Operand) = none,((.slice (if b = 1 then c else (c).map (fun a => a.add (1 * 46))) (1 - 1) (b - 1)) : Value) = .slice (cutOb c 1 b 46) 0 (b - 1)]) (fun _ => by kernel_rfl) (fun _ => ⟨rfl,rfl,rfl,rfl,(Nat.le_of_ble_eq_true rfl),Q,(Nat.le_refl _),(by intro h; first | rfl | cases h),rfl,trivial⟩)) ?_
 intro _
 refine GR.ru (i := 8) 1 (env' := fun _ => [(0,pA r 0),(3,pA ((k 0).x) 0),(4,pA ((k 1).x) 0),(5,pA ((J 6).x) 0)]) (mem' := fun _ => [(1,.osl c b 57 46 [(kc51 q o p d)]),(2,.cells r 69 (kc81 o p C q D E G H j z.length B e m.length s f n.length u (cutOb c 1 b 46) (b - 1) I)),(3,r52 j z),(4,r80 e m),(5,r76 f n),(6,.cells ((k 0).x) 60 (kc53 A)),(7,.cells ((k 1).x) 60 (kc9)),(8,.cells ((J 6).x) 57 (kc51 q o p d))]) (by kernel_rfl) (RunsTo.mk [(8,{ act := .store 0 0 [],key := some 2 })] [0,3,4,5] [1,2,3,4,5,6,7,8] (fun _ => [r = r,oC (.slice (cutOb c 1 b 46) 0 (b - 1))]) (fun _ => by kernel_rfl) (fun _ => ⟨rfl,rfl,trivial⟩)) ?_
 intro _
 refine GR.setMem (mem' := [(2,.cells r 69 (kc81 o p C q D E G H j z.length B e m.length s f n.length u (cutOb c 1 b 46) (b - 1) I)),(3,r52 j z),(4,r80 e m),(5,r76 f n),(6,.cells ((k 0).x) 60 (kc53 A)),(7,.cells ((k 1).x) 60 (kc9)),(8,.cells ((J 6).x) 57 (kc51 q o p d)),(9,.osl (cutOb c 1 b 46) (b - 1) 57 46 (((([(kc51 q o p d)] : List (List Value))).drop 1).take (1 - 1)))]) (fun w hw => own_cov (K := 1) (K2 := 9) [2,3,4,5,6,7,8,9] hw rfl rfl (own_cut (l := 1) (hh := 1) (Nat.le_of_ble_eq_true rfl) Q) (by kernel_rfl)) ?_
 refine GR.conv (mem' := [(2,.cells r 69 (kc81 o p C q D E G H j z.length B e m.length s f n.length u (cutOb c 1 b 46) (b - 1) I)),(3,r52 j z),(4,r80 e m),(5,r76 f n),(6,.cells ((k 0).x) 60 (kc53 A)),(7,.cells ((k 1).x) 60 (kc9)),(8,.cells ((J 6).x) 57 (kc51 q o p d)),(9,.osl (cutOb c 1 b 46) (b - 1) 57 46 [])]) rfl rfl ?_
 refine GR.dn (by kernel_rfl) ?_
 refine GS.seq ?_
 refine GS.tgM (fun _ => [(0,pA r 0),(3,pA ((k 0).x) 0),(4,pA ((k 1).x) 0),(5,pA ((J 6).x) 0),(52,vI 5)]) [(2,{ act := .load 8 0 0 [] })] (fun _ => [(J 6).x = (J 6).x]) (fun _ => ⟨rfl,trivial⟩) ?_
 intro _
 refine GS.block ?_
 refine GS.seq ?_
 refine GS.seq ?_
 refine GS.tzM (fun _ => [(0,pA r 0),(3,pA ((k 0).x) 0),(4,pA ((k 1).x) 0),(5,pA ((J 6).x) 0),(52,vI 5),(62,.bool false)]) [] ?_
 intro _
 refine GS.cond (t := false) rfl rfl (fun hf => by cases hf) (fun _ => ?_)
 refine GS.seq ?_
 refine GS.tzM (fun _ => [(0,pA r 0),(3,pA ((k 0).x) 0),(4,pA ((k 1).x) 0),(5,pA ((J 6).x) 0),(52,vI 5),(62,.bool false)]) [] ?_
 intro _
 refine GS.cond (t := false) rfl rfl (fun hf => by cases hf) (fun _ => ?_)
 refine GS.tzM (fun _ => [(0,pA r 0),(3,pA ((k 0).x) 0),(4,pA ((k 1).x) 0),(5,pA ((J 6).x) 0),(52,vI 5),(62,.bool false)]) [] ?_
 intro _
 refine GS.cond (t := false) rfl rfl (fun hf => by cases hf) (fun _ => ?_)
 refine GS.seq ?_
 refine GS.seq ?_
 refine GS.tzM (fun _ => [(0,pA r 0),(3,pA ((k 0).x) 0),(4,pA ((k 1).x) 0),(5,pA ((J 6).x) 0),(52,vI 5),(70,.bool false)]) [] ?_
 intro _
 refine GS.cond (t := false) rfl rfl (fun hf => by cases hf) (fun _ => ?_)
 refine GS.tzM (fun _ => [(0,pA r 0),(3,pA ((k 0).x) 0),(4,pA ((k 1).x) 0),(5,pA ((J 6).x) 0),(70,.bool true)]) [] ?_
 intro _
 refine GS.cond (t := true) rfl rfl (fun _ => ?_) (fun hf => by cases hf)
 refine bnd_elim hm (fun P R hm => ?_)
 refine GS.open_ ?_
 refine GR.ru (i := 0) 3 (env' := fun _ => [(0,pA r 0),(3,pA ((k 0).x) 0),(4,pA ((k 1).x) 0),(73,pA r 0),(74,.agg ((kc51 q o p d)).toArray),(75,.agg ((kc53 A)).toArray)]) (mem' := fun _ => [(2,.cells r 69 (kc81 o p C q D E G H j z.length B e m.length s f n.length u (cutOb c 1 b 46) (b - 1) I)),(3,r52 j z),(4,r80 e m),(5,r76 f n),(6,.cells ((k 0).x) 60 (kc53 A)),(7,.cells ((k 1).x) 60 (kc9)),(9,.osl (cutOb c 1 b 46) (b - 1) 57 46 [])]) (by kernel_rfl) (RunsTo.mk [(1,{ act := .load 8 0 0 [] }),(2,{ act := .load 6 0 0 [] })] [0,3,4,73,74,75] [2,3,4,5,6,7,9] (fun _ => [(J 6).x = (J 6).x,(k 0).x = (k 0).x]) (fun _ => by kernel_rfl) (fun _ => ⟨rfl,rfl,trivial⟩)) ?_
 intro _
 refine GR.callG (X := Option Addr × Nat × Option Addr × Nat) (i := 3) (g := 34) (args := #[pA r 0,.agg ((kc51 q o p d)).toArray,.agg ((kc53 A)).toArray]) (v := fun ⟨L,M,N,O⟩ => .agg ((kc60 A L M)).toArray) (own := [.cells r 69 (kc81 o p C q D E G H j z.length B e m.length s f n.length u (cutOb c 1 b 46) (b - 1) I)]) (ro := [r52 j z,r80 e m,r76 f n,.rd (cutOb c 1 b 46) 46 []]) (es' := fun ⟨L,M,N,O⟩ => [o9 N O P.1,.osl L M 57 46 [(kc74 q D C o p d N P.1.length O)],.cells r 69 (kc81 o p C q D E G H j z.length B e m.length s f n.length u (cutOb c 1 b 46) (b - 1) P.2)]) (mem' := fun ⟨L,M,N,O⟩ => [(2,.cells r 69 (kc81 o p C q D E G H j z.length B e m.length s f n.length u (cutOb c 1 b 46) (b - 1) P.2)),(3,r52 j z),(4,r80 e m),(5,r76 f n),(6,.cells ((k 0).x) 60 (kc53 A)),(7,.cells ((k 1).x) 60 (kc9)),(9,.osl (cutOb c 1 b 46) (b - 1) 57 46 []),(10,.osl L M 57 46 [(kc74 q D C o p d N P.1.length O)]),(11,o9 N O P.1)]) (env' := fun ⟨L,M,N,O⟩ => [(0,pA r 0),(3,pA ((k 0).x) 0),(4,pA ((k 1).x) 0),(76,.agg ((kc60 A L M)).toArray)]) [2] [11,10,2] [0,3,4,76] [2,3,4,5,6,7,9,10,11] false (by kernel_rfl) (by kernel_rfl) (by kernel_rfl) (by kernel_rfl) (by kernel_rfl) (fun _ => rfl) (fun _ _ => rfl) ⟨(.inl ⟨3,_,rfl,rfl,Cov.refl _,fun h => by cases h⟩),(.inl ⟨4,_,rfl,rfl,Cov.refl _,fun h => by cases h⟩),(.inl ⟨5,_,rfl,rfl,Cov.refl _,fun h => by cases h⟩),(.inl ⟨9,_,rfl,rfl,Cov.osl_rd,fun h => by cases h⟩),trivial⟩ (by rintro ⟨L,M,N,O⟩; kernel_rfl) (by rintro ⟨L,M,N,O⟩; kernel_rfl) ((by have h1 := w___primary_Machine__read_2 F r o p C q D E G H j B z e s m f u n (cutOb c 1 b 46) (b - 1) I d A R; exact h1)) ?_
 rintro ⟨L,M,N,O⟩
 refine GR.ru (i := 4) 1 (env' := fun _ => [(0,pA r 0),(3,pA ((k 0).x) 0),(4,pA ((k 1).x) 0)]) (mem' := fun _ => [(2,.cells r 69 (kc81 o p C q D E G H j z.length B e m.length s f n.length u (cutOb c 1 b 46) (b - 1) P.2)),(3,r52 j z),(4,r80 e m),(5,r76 f n),(6,.cells ((k 0).x) 60 (kc60 A L M)),(7,.cells ((k 1).x) 60 (kc9)),(9,.osl (cutOb c 1 b 46) (b - 1) 57 46 []),(10,.osl L M 57 46 [(kc74 q D C o p d N P.1.length O)]),(11,o9 N O P.1)]) (by kernel_rfl) (RunsTo.mk [(4,{ act := .store 0 0 [],key := some 6 })] [0,3,4] [2,3,4,5,6,7,9,10,11] (fun _ => [(k 0).x = (k 0).x,oC (.agg ((kc60 A L M)).toArray)]) (fun _ => by kernel_rfl) (fun _ => ⟨rfl,rfl,trivial⟩)) ?_
 intro _
 refine GR.dn (by kernel_rfl) ?_
 refine GS.inBlock ?_
 refine GS.inBlock ?_
 refine GS.inLoop ?_
 refine GS.seq ?_
 refine GS.seq ?_
 refine GS.tgM (fun _ => [(0,pA r 0),(3,pA ((k 0).x) 0),(4,pA ((k 1).x) 0),(35,.bool false)]) [(3,{ act := .load 2 0 0 [] }),(9,{ act := .load 2 0 0 [] }),(16,{ act := .load 2 0 0 [] })] (fun _ => [r = r,r = r,r = r]) (fun _ => ⟨rfl,rfl,rfl,trivial⟩) ?_
 intro _
 refine GS.cond (t := false) rfl rfl (fun hf => by cases hf) (fun _ => ?_)
 refine GS.exit rfl ?_
 refine GS.seq ?_
 refine GS.tg (fun _ => [(4,pA ((k 1).x) 0)]) (fun _ => [(2,.cells r 69 (kc81 o p C q D E G H j z.length B e m.length s f n.length u (cutOb c 1 b 46) (b - 1) P.2)),(3,r52 j z),(4,r80 e m),(5,r76 f n),(7,.cells ((k 1).x) 60 (kc60 A L M)),(9,.osl (cutOb c 1 b 46) (b - 1) 57 46 []),(10,.osl L M 57 46 [(kc74 q D C o p d N P.1.length O)]),(11,o9 N O P.1)]) [(0,{ act := .load 6 0 0 [] }),(1,{ act := .store 0 0 [],key := some 7 })] (fun _ => [(k 0).x = (k 0).x,(k 1).x = (k 1).x,oC (.agg ((kc60 A L M)).toArray)]) (fun _ => ⟨rfl,rfl,rfl,trivial⟩) ?_
 intro _
 have hy := Option.some.inj hm
 subst hy
 refine GS.ret (fn := Try.f27) [7] [.agg ((kc60 A L M)).toArray] [(k 1).x = (k 1).x] rfl Try.func27 (by kernel_rfl) ⟨rfl,trivial⟩ (fun w' hs => ?_)
 exact ⟨⟨L,M,N,O,cutOb c 1 b 46,b - 1⟩,rfl,hs.turnedG (ks := [11,10,9,2]) rfl rfl⟩

theorem w___primary_Machine__request_4 (F u : Nat) (k l A m B C D E : Int) (c : Option Addr) (z : Nat) (s : List S_api_Entry) (a : Option Addr) (o : Nat) (e : List S_api_Last) (b : Option Addr) (q : Nat) (j : List S_api_Item) (G r : Int) {y : List ByteArray × Int} (hm : m___primary_Machine__request_4 F k l A m B C D E s e j G r = some y) : CallG Try.prog 12 #[pA u 0,.agg ((kc51 m k l r)).toArray] (X := Option Addr × Nat × Option Addr × Nat × Option Addr × Nat) (fun ⟨x0,x1,x2,x3,x4,x5⟩ => .agg ((kc42 x0 x1)).toArray) [.cells u 69 (kc79 k l A m B C D E c s.length z a e.length o b j.length q G)] [r52 c s,r80 a e,r76 b j] (fun ⟨x0,x1,x2,x3,x4,x5⟩ => [o9 x2 x3 y.1,.osl x0 x1 57 46 [(kc74 m B A k l r x2 y.1.length x3)],.osl x4 x5 57 46 [],.cells u 69 (kc81 k l A m B C D E c s.length z a e.length o b j.length q x4 x5 y.2)]) := by
 intro w hg
 rw [m___primary_Machine__request_4] at hm
 refine GS.start (S := mayT [.cells u 69 (kc79 k l A m B C D E c s.length z a e.length o b j.length q G)] [r52 c s,r80 a e,r76 b j]) (mem := [(1,.cells u 69 (kc79 k l A m B C D E c s.length z a e.length o b j.length q G)),(2,r52 c s),(3,r80 a e),(4,r76 b j)]) Try.func12 rfl Try.ntmps12 (Nat.le_of_ble_eq_true rfl) (hg.start rfl) ?_
 refine GS.conv (env' := [(0,pA u 0),(1,.agg ((kc51 m k l r)).toArray)]) rfl rfl ?_
 refine GS.seq ?_
 refine GS.tz (fun n => [(0,pA u 0),(3,pA ((n 0).x) 0),(4,pA ((n 1).x) 0)]) (fun n => [(1,.cells u 69 (kc79 k l A m B C D E c s.length z a e.length o b j.length q G)),(2,r52 c s),(3,r80 a e),(4,r76 b j),(5,.cells ((n 0).x) 57 (kc51 m k l r)),(6,.cells ((n 1).x) 60 (kc9))]) [(0,{ act := .new .var,key := some 5 }),(1,{ act := .new .var,key := some 6 })] ?_
 intro n
 refine GS.seq ?_
 refine GS.tzM (fun _ => [(0,pA u 0),(3,pA ((n 0).x) 0),(4,pA ((n 1).x) 0),(5,.func (.func 22) #[] #[pA ((n 0).x) 0])]) [] ?_
 intro _
 refine GS.seq ?_
 refine GS.block ?_
 refine GS.seq ?_
 refine GS.tgM (fun _ => [(0,pA u 0),(3,pA ((n 0).x) 0),(4,pA ((n 1).x) 0),(5,.func (.func 22) #[] #[pA ((n 0).x) 0]),(7,.bool false)]) [(3,{ act := .load 1 0 0 [] })] (fun _ => [u = u]) (fun _ => ⟨rfl,trivial⟩) ?_
 intro _
 refine GS.cond (t := false) rfl rfl (fun hf => by cases hf) (fun _ => ?_)
 refine GS.seq ?_
 refine GS.seq ?_
 refine GS.rM (env' := fun _ => [(0,pA u 0),(3,pA ((n 0).x) 0),(4,pA ((n 1).x) 0),(5,.func (.func 22) #[] #[pA ((n 0).x) 0]),(20,.bool false)]) (RunsTo.mkd [(3,{ act := .load 1 0 0 [] })] [0,3,4,5,20] [1,2,3,4,5,6] (fun _ => [u = u]) (by kernel_rfl) (by kernel_rfl) (fun _ => by kernel_rfl) (fun _ => ⟨rfl,trivial⟩)) ?_
 intro _
 refine GS.cond (t := false) rfl rfl (fun hf => by cases hf) (fun _ => ?_)
 refine bnd_elim hm (fun y6 e7 hm => ?_)
 refine GS.tgM (fun _ => [(0,pA u 0),(3,pA ((n 0).x) 0),(4,pA ((n 1).x) 0),(20,.bool false)]) [(3,{ act := .load 1 0 0 [] }),(5,{ act := .call [5] (.bool false) })] (fun _ => [u = u,CallOK Try.prog 25 #[.slice none 0 0,.func (.func 22) #[] #[pA ((n 0).x) 0]] (.bool false) [some (.cells ((n 0).x) 57 (kc51 m k l r))]]) (fun _ => ⟨rfl,(by have h1 := w_slices_ContainsFunc___api_Msg_api_Msg__2 F (n 0).x m k l r e7; exact h1.ok ⟨(.inl ⟨.cells ((n 0).x) 57 (kc51 m k l r),.head _,Cov.cells_rd⟩),trivial⟩),trivial⟩) ?_
 intro _
 refine GS.cond (t := false) rfl rfl (fun hf => by cases hf) (fun _ => ?_)
 refine GS.skip ?_
 refine GS.inBlock ?_
 refine GS.seq ?_
 refine bnd_elim hm (fun y9 O hm => ?_)
 refine GS.tgM (fun _ => [(0,pA u 0),(3,pA ((n 0).x) 0),(4,pA ((n 1).x) 0)]) [(2,{ act := .load 5 0 0 [] }),(3,{ act := .call [] (.slice none 0 0) }),(6,{ act := .store 0 0 [],key := some 5 })] (fun _ => [(n 0).x = (n 0).x,CallOK Try.prog 26 #[.slice none 0 0] (.slice none 0 0) [],(n 0).x = (n 0).x,oC (.slice none 0 0)]) (fun _ => ⟨rfl,(by have h1 := w_slices_Clone___byte_byte__2 F  O; exact h1.ok trivial),rfl,rfl,trivial⟩) ?_
 intro _
 refine GS.seq ?_
 refine GS.region (env' := fun d => [(0,pA u 0),(4,pA ((n 1).x) 0)]) (mem' := fun d => [(1,.cells u 69 (kc80 k l A m B C D E c s.length z a e.length o b j.length q ((d 7).ob) ((d 7).cap) G)),(2,r52 c s),(3,r80 a e),(4,r76 b j),(6,.cells ((n 1).x) 60 (kc9)),(8,.osl ((d 7).ob) ((d 7).cap) 57 46 ([(kc51 m k l r)] : List (List Value)))]) (RunsTo.mkd [(4,{ act := .load 1 0 0 [] }),(5,{ act := .load 5 0 0 [] }),(6,{ act := .new (.row 1 46),key := some 7 }),(7,{ act := .app (some 7),key := some 8,spf := some (fun f => .slice (f.ob) 1 (f.cap)) }),(10,{ act := .store 0 0 [],key := some 1 })] [0,4] [1,2,3,4,6,8] (fun d => [u = u,(n 0).x = (n 0).x,(some (Addr.mk (d 6).x 0 none)) = (some (Addr.mk (d 6).x 0 none)),1 = ([(kc51 m k l r)] : List (List Value)).length,0 = 0,0 = 0,([(kc51 m k l r)] : List (List Value)).length * (552 + 1) ≤ 70368744177664,((.slice ((d 7).ob) (0 + ([(kc51 m k l r)] : List (List Value)).length) ((d 7).cap)) : Value) = .slice ((d 7).ob) 1 ((d 7).cap),u = u,oC (.slice ((d 7).ob) 1 ((d 7).cap))]) (by kernel_rfl) (by kernel_rfl) (fun d => by kernel_rfl) (fun d => ⟨rfl,rfl,rfl,rfl,rfl,rfl,(show 1 * (552 + 1) ≤ 70368744177664 by decide),rfl,rfl,rfl,trivial⟩)) ?_
 intro d
 refine GS.conv (mem' := [(1,.cells u 69 (kc80 k l A m B C D E c s.length z a e.length o b j.length q ((d 7).ob) ((d 7).cap) G)),(2,r52 c s),(3,r80 a e),(4,r76 b j),(6,.cells ((n 1).x) 60 (kc9)),(8,.osl ((d 7).ob) ((d 7).cap) 57 46 [(kc51 m k l r)])]) rfl (congrArg (fun rr : List (List Value) => ([(1,.cells u 69 (kc80 k l A m B C D E c s.length z a e.length o b j.length q ((d 7).ob) ((d 7).cap) G)),(2,r52 c s),(3,r80 a e),(4,r76 b j),(6,.cells ((n 1).x) 60 (kc9)),(8,.osl ((d 7).ob) ((d 7).cap) 57 46 rr)] : List (Nat × Ent))) (show ([(kc51 m k l r)] : List (List Value)) = ([(kc51 m k l r)] : List (List Value)) from rfl)) ?_
 refine GS.seq ?_
 refine GS.know (p := ((d 7).ob).isNone = false) (fun w hw => ne_osl (hw.ok 8 _ rfl)) (fun R => ?_)
 refine GS.know (p := 1 ≤ (d 7).cap) (fun w hw => (hw.ok 8 _ rfl).1.1) (fun P => ?_)
 refine bnd_elim hm (fun N Q hm => ?_)
 refine GS.open_ ?_
 refine GR.rM (i := 0) 2 (env' := fun _ => [(4,pA ((n 1).x) 0),(60,pA u 0),(61,.agg ((kc9)).toArray)]) (by kernel_rfl) (RunsTo.mk [] [4,60,61] [1,2,3,4,6,8] (fun _ => []) (fun _ => by kernel_rfl) (fun _ => trivial)) ?_
 intro _
 refine GR.callG (X := Option Addr × Nat × Option Addr × Nat × Option Addr × Nat) (i := 2) (g := 27) (args := #[pA u 0,.agg ((kc9)).toArray]) (v := fun ⟨H,I,J,K,L,M⟩ => .agg ((kc42 H I)).toArray) (own := [.osl ((d 7).ob) ((d 7).cap) 57 46 [(kc51 m k l r)],.cells u 69 (kc80 k l A m B C D E c s.length z a e.length o b j.length q ((d 7).ob) ((d 7).cap) G)]) (ro := [r52 c s,r80 a e,r76 b j]) (es' := fun ⟨H,I,J,K,L,M⟩ => [o9 J K N.1,.osl H I 57 46 [(kc74 m B A k l r J N.1.length K)],.osl L M 57 46 [],.cells u 69 (kc81 k l A m B C D E c s.length z a e.length o b j.length q L M N.2)]) (mem' := fun ⟨H,I,J,K,L,M⟩ => [(1,.cells u 69 (kc81 k l A m B C D E c s.length z a e.length o b j.length q L M N.2)),(2,r52 c s),(3,r80 a e),(4,r76 b j),(6,.cells ((n 1).x) 60 (kc9)),(9,.osl H I 57 46 [(kc74 m B A k l r J N.1.length K)]),(10,o9 J K N.1),(11,.osl L M 57 46 [])]) (env' := fun ⟨H,I,J,K,L,M⟩ => [(4,pA ((n 1).x) 0),(62,.agg ((kc42 H I)).toArray)]) [8,1] [10,9,11,1] [4,62] [1,2,3,4,6,9,10,11] false (by kernel_rfl) (by kernel_rfl) (by kernel_rfl) (by kernel_rfl) (by kernel_rfl) (fun _ => rfl) (fun _ _ => rfl) ⟨(.inl ⟨2,_,rfl,rfl,Cov.refl _,fun h => by cases h⟩),(.inl ⟨3,_,rfl,rfl,Cov.refl _,fun h => by cases h⟩),(.inl ⟨4,_,rfl,rfl,Cov.refl _,fun h => by cases h⟩),trivial⟩ (by rintro ⟨H,I,J,K,L,M⟩; kernel_rfl) (by rintro ⟨H,I,J,K,L,M⟩; kernel_rfl) ((by have h1 := w___primary_Machine__begin_6 F u k l A m B C D E c z s a o e b q j ((d 7).ob) ((d 7).cap) r G 0 P Q; exact h1)) ?_
 rintro ⟨H,I,J,K,L,M⟩
 refine GR.ru (i := 3) 1 (env' := fun _ => [(4,pA ((n 1).x) 0)]) (mem' := fun _ => [(1,.cells u 69 (kc81 k l A m B C D E c s.length z a e.length o b j.length q L M N.2)),(2,r52 c s),(3,r80 a e),(4,r76 b j),(6,.cells ((n 1).x) 60 (kc42 H I)),(9,.osl H I 57 46 [(kc74 m B A k l r J N.1.length K)]),(10,o9 J K N.1),(11,.osl L M 57 46 [])]) (by kernel_rfl) (RunsTo.mk [(3,{ act := .store 0 0 [],key := some 6 })] [4] [1,2,3,4,6,9,10,11] (fun _ => [(n 1).x = (n 1).x,oC (.agg ((kc42 H I)).toArray)]) (fun _ => by kernel_rfl) (fun _ => ⟨rfl,rfl,trivial⟩)) ?_
 intro _
 refine GR.dn (by kernel_rfl) ?_
 have hy := Option.some.inj hm
 subst hy
 refine GS.ret (fn := Try.f12) [6] [.agg ((kc42 H I)).toArray] [(n 1).x = (n 1).x] rfl Try.func12 (by kernel_rfl) ⟨rfl,trivial⟩ (fun w' hs => ?_)
 exact ⟨⟨H,I,J,K,L,M⟩,rfl,hs.turnedG (ks := [10,9,11,1]) rfl rfl⟩

theorem w___primary_Machine__Step_8 (F q : Nat) (f j r k s z A B : Int) (c : Option Addr) (p : Nat) (o : List S_api_Entry) (a : Option Addr) (l : Nat) (d : List S_api_Last) (b : Option Addr) (m : Nat) (e : List S_api_Item) (C u : Int) {y : List ByteArray × Int} (hm : m___primary_Machine__Step_8 F f j r k s z A B o d e C u = some y) : CallG Try.prog 7 #[pA q 0,.agg ((kc51 k f j u)).toArray] (X := Option Addr × Nat × Option Addr × Nat × Option Addr × Nat) (fun ⟨x0,x1,x2,x3,x4,x5⟩ => .agg ((kc42 x0 x1)).toArray) [.cells q 69 (kc79 f j r k s z A B c o.length p a d.length l b e.length m C)] [r52 c o,r80 a d,r76 b e] (fun ⟨x0,x1,x2,x3,x4,x5⟩ => [o9 x2 x3 y.1,.osl x0 x1 57 46 [(kc74 k s r f j u x2 y.1.length x3)],.osl x4 x5 57 46 [],.cells q 69 (kc81 f j r k s z A B c o.length p a d.length l b e.length m x4 x5 y.2)]) := by
 intro w hg
 rw [m___primary_Machine__Step_8] at hm
 refine GS.start (S := mayT [.cells q 69 (kc79 f j r k s z A B c o.length p a d.length l b e.length m C)] [r52 c o,r80 a d,r76 b e]) (mem := [(1,.cells q 69 (kc79 f j r k s z A B c o.length p a d.length l b e.length m C)),(2,r52 c o),(3,r80 a d),(4,r76 b e)]) Try.func7 rfl Try.ntmps7 (Nat.le_of_ble_eq_true rfl) (hg.start rfl) ?_
 refine GS.conv (env' := [(0,pA q 0),(1,.agg ((kc51 k f j u)).toArray)]) rfl rfl ?_
 refine GS.seq ?_
 refine GS.tz (fun n => [(0,pA q 0),(3,pA ((n 0).x) 0),(4,pA ((n 1).x) 0)]) (fun n => [(1,.cells q 69 (kc79 f j r k s z A B c o.length p a d.length l b e.length m C)),(2,r52 c o),(3,r80 a d),(4,r76 b e),(5,.cells ((n 0).x) 57 (kc51 k f j u)),(6,.cells ((n 1).x) 60 (kc9))]) [(0,{ act := .new .var,key := some 5 }),(1,{ act := .new .var,key := some 6 })] ?_
 intro n
 refine GS.seq ?_
 refine GS.seq ?_
 refine GS.rM (env' := fun _ => [(0,pA q 0),(3,pA ((n 0).x) 0),(4,pA ((n 1).x) 0),(32,.bool false)]) (RunsTo.mkd [(6,{ act := .load 1 0 0 [] }),(11,{ act := .load 5 0 0 [] }),(15,{ act := .load 1 0 0 [] }),(17,{ act := .eq,sp := some (.bool false) }),(21,{ act := .load 5 0 0 [] }),(25,{ act := .load 1 0 0 [] }),(26,{ act := .eq,sp := some (.bool false) })] [0,3,4,32] [1,2,3,4,5,6] (fun _ => [q = q,(n 0).x = (n 0).x,q = q,((.bool (!(S_api_Node.beq (S_api_Node.mk 2 k) (S_api_Node.mk 2 k)))) : Value) = .bool false,(n 0).x = (n 0).x,q = q,((.bool (!(S_api_Pg.beq (S_api_Pg.mk f j) (S_api_Pg.mk f j)))) : Value) = .bool false]) (by kernel_rfl) (by kernel_rfl) (fun _ => by kernel_rfl) (fun _ => ⟨rfl,rfl,rfl,(congrArg Value.bool (by simp [S_api_Node.beq])),rfl,rfl,(congrArg Value.bool (by simp [S_api_Pg.beq])),trivial⟩)) ?_
 intro _
 refine GS.cond (t := false) rfl rfl (fun hf => by cases hf) (fun _ => ?_)
 refine GS.skip ?_
 refine GS.seq ?_
 refine GS.seq ?_
 refine GS.tgM (fun _ => [(0,pA q 0),(3,pA ((n 0).x) 0),(4,pA ((n 1).x) 0),(35,vI 30)]) [(1,{ act := .load 5 0 0 [] })] (fun _ => [(n 0).x = (n 0).x]) (fun _ => ⟨rfl,trivial⟩) ?_
 intro _
 refine GS.block ?_
 refine GS.seq ?_
 refine GS.tzM (fun _ => [(0,pA q 0),(3,pA ((n 0).x) 0),(4,pA ((n 1).x) 0),(35,vI 30),(36,.bool true)]) [] ?_
 intro _
 refine GS.cond (t := true) rfl rfl (fun _ => ?_) (fun hf => by cases hf)
 refine GS.seq ?_
 refine bnd_elim hm (fun y6 e7 hm => ?_)
 refine GS.open_ ?_
 refine GR.ru (i := 0) 2 (env' := fun _ => [(4,pA ((n 1).x) 0),(38,pA q 0),(39,.agg ((kc51 k f j u)).toArray)]) (mem' := fun _ => [(1,.cells q 69 (kc79 f j r k s z A B c o.length p a d.length l b e.length m C)),(2,r52 c o),(3,r80 a d),(4,r76 b e),(6,.cells ((n 1).x) 60 (kc9))]) (by kernel_rfl) (RunsTo.mk [(1,{ act := .load 5 0 0 [] })] [4,38,39] [1,2,3,4,6] (fun _ => [(n 0).x = (n 0).x]) (fun _ => by kernel_rfl) (fun _ => ⟨rfl,trivial⟩)) ?_
 intro _
 refine GR.callG (X := Option Addr × Nat × Option Addr × Nat × Option Addr × Nat) (i := 2) (g := 12) (args := #[pA q 0,.agg ((kc51 k f j u)).toArray]) (v := fun ⟨x8,x9,D,E,G,H⟩ => .agg ((kc42 x8 x9)).toArray) (own := [.cells q 69 (kc79 f j r k s z A B c o.length p a d.length l b e.length m C)]) (ro := [r52 c o,r80 a d,r76 b e]) (es' := fun ⟨x8,x9,D,E,G,H⟩ => [o9 D E y6.1,.osl x8 x9 57 46 [(kc74 k s r f j u D y6.1.length E)],.osl G H 57 46 [],.cells q 69 (kc81 f j r k s z A B c o.length p a d.length l b e.length m G H y6.2)]) (mem' := fun ⟨x8,x9,D,E,G,H⟩ => [(1,.cells q 69 (kc81 f j r k s z A B c o.length p a d.length l b e.length m G H y6.2)),(2,r52 c o),(3,r80 a d),(4,r76 b e),(6,.cells ((n 1).x) 60 (kc9)),(7,.osl x8 x9 57 46 [(kc74 k s r f j u D y6.1.length E)]),(8,o9 D E y6.1),(9,.osl G H 57 46 [])]) (env' := fun ⟨x8,x9,D,E,G,H⟩ => [(4,pA ((n 1).x) 0),(40,.agg ((kc42 x8 x9)).toArray)]) [1] [8,7,9,1] [4,40] [1,2,3,4,6,7,8,9] false (by kernel_rfl) (by kernel_rfl) (by kernel_rfl) (by kernel_rfl) (by kernel_rfl) (fun _ => rfl) (fun _ _ => rfl) ⟨(.inl ⟨2,_,rfl,rfl,Cov.refl _,fun h => by cases h⟩),(.inl ⟨3,_,rfl,rfl,Cov.refl _,fun h => by cases h⟩),(.inl ⟨4,_,rfl,rfl,Cov.refl _,fun h => by cases h⟩),trivial⟩ (by rintro ⟨x8,x9,D,E,G,H⟩; kernel_rfl) (by rintro ⟨x8,x9,D,E,G,H⟩; kernel_rfl) ((by have h1 := w___primary_Machine__request_4 F q f j r k s z A B c p o a l d b m e C u e7; exact h1)) ?_
 rintro ⟨x8,x9,D,E,G,H⟩
 refine GR.ru (i := 3) 1 (env' := fun _ => [(4,pA ((n 1).x) 0)]) (mem' := fun _ => [(1,.cells q 69 (kc81 f j r k s z A B c o.length p a d.length l b e.length m G H y6.2)),(2,r52 c o),(3,r80 a d),(4,r76 b e),(6,.cells ((n 1).x) 60 (kc42 x8 x9)),(7,.osl x8 x9 57 46 [(kc74 k s r f j u D y6.1.length E)]),(8,o9 D E y6.1),(9,.osl G H 57 46 [])]) (by kernel_rfl) (RunsTo.mk [(3,{ act := .store 0 0 [],key := some 6 })] [4] [1,2,3,4,6,7,8,9] (fun _ => [(n 1).x = (n 1).x,oC (.agg ((kc42 x8 x9)).toArray)]) (fun _ => by kernel_rfl) (fun _ => ⟨rfl,rfl,trivial⟩)) ?_
 intro _
 refine GR.dn (by kernel_rfl) ?_
 have hy := Option.some.inj hm
 subst hy
 refine GS.ret (fn := Try.f7) [6] [.agg ((kc42 x8 x9)).toArray] [(n 1).x = (n 1).x] rfl Try.func7 (by kernel_rfl) ⟨rfl,trivial⟩ (fun w' hs => ?_)
 exact ⟨⟨x8,x9,D,E,G,H⟩,rfl,hs.turnedG (ks := [8,7,9,1]) rfl rfl⟩

end Go.Proofs.Ytjnbkhnebmlilaa
