/-
 CHAPTER 18o: the functions do what their models say (15).
-/
import Derived.Test.YtjnbkhnebmlilaaGreatE18o
import Derived.Test.YtjnbkhnebmlilaaGreatW18ob
import Derived.Test.YtjnbkhnebmlilaaGreatW18od
import Derived.Test.YtjnbkhnebmlilaaGreatW18oe
set_option linter.unusedVariables false
set_option linter.unusedSimpArgs false
set_option maxRecDepth 100000
set_option maxHeartbeats 8000000
namespace Go.Proofs.YtjnbkhnebmlilaaGreat
open Go Go.RowKit Sx

theorem w_primary_Take (F : Nat) (o : Int) (j : S_api_Version) (e : Option Addr) (n : Nat) (f : List S_api_Entry) (a : Option Addr) (l : Nat) (c : List S_api_Last) (b : Option Addr) (m : Nat) (d : List S_api_Item) (a1 : S_api_Entry) (a2 : Int) {y : Int × S_api_Version × List S_api_Entry × List S_api_Last × List S_api_Item × Int} (hm : m_primary_Take F o j f c d a1 a2 = some y) : CallG Tryz.prog 8 #[.agg ((kc15 o j.Epoch j.N e f.length n a c.length l b d.length m)).toArray,.agg ((kc35 a1.Version.Epoch a1.Version.N a1.Remove a1.Errno a1.Name a1.Client a1.Number)).toArray,.int .u32 a2] (X := Option Addr × Nat × Option Addr × Nat × Option Addr × Nat) (fun ⟨x0,x1,x2,x3,x4,x5⟩ => .tuple #[.agg ((kc15 y.1 y.2.1.Epoch y.2.1.N x0 y.2.2.1.length x1 x2 y.2.2.2.1.length x3 x4 y.2.2.2.2.1.length x5)).toArray,vI y.2.2.2.2.2]) [] [r31 e f,r94 a c,r91 b d] (fun ⟨x0,x1,x2,x3,x4,x5⟩ => [o31 x0 x1 y.2.2.1,o94 x2 x3 y.2.2.2.1,o91 x4 x5 y.2.2.2.2.1]) := by
 rw [m_primary_Take] at hm
 refine GS.st Tryz.func8 Tryz.ntmps8 (fun w => ?_)
 refine GS.seq ?_
 refine GS.dg [0,1] (fun k => [(3,pA ((k 0).x) 0),(4,pA ((k 1).x) 0),(6,pA ((k 2).x) 0)]) [] (fun k => [(4,.cells ((k 0).x) 28 (kc15 o j.Epoch j.N e f.length n a c.length l b d.length m)),(5,.cells ((k 1).x) 31 (kc35 a1.Version.Epoch a1.Version.N a1.Remove a1.Errno a1.Name a1.Client a1.Number)),(6,.cells ((k 2).x) 28 (kc1))]) [(0,hN 4),(1,hN 5),(2,hN 6)] (fun k => []) (fun k => ?_)
 refine GS.seq ?_
 refine bnd_elim hm (fun y3 e4 hm => ?_)
 refine GS.dg [] (fun z => [(8,pA ((z 2).x) 0)]) [] (fun z => [(7,.cells ((z 2).x) 23 [vI y3.Epoch,vI y3.N])]) [(0,hL 4 0 0),(1,hC [1,2,3] (.agg #[vI y3.Epoch,vI y3.N])),(2,hN 7),(3,hS 7)] (fun z => [qE ((k 0).x),⟨(w_pglog_Head F o j e n f a l c b m d e4).ok (es := [some (r31 e f),some (r94 a c),some (r91 b d)]) ⟨(.inl ⟨_,mm0,Cov.refl _⟩),(.inl ⟨_,mm1,Cov.refl _⟩),(.inl ⟨_,mm2,Cov.refl _⟩),trivial⟩⟩,qE ((z 2).x),qE true]) (fun z => ?_)
 refine GS.seq ?_
 refine GS.seq ?_
 refine bnd_elim hm (fun y6 e7 hm => ?_)
 refine GS.eg [] [(17,.bool (decide (y6 ≤ 0)))] [] [] [(1,hL 5 0 0),(2,hL 7 0 0),(3,hC [] (vI y6))] [qE ((k 1).x),qE ((z 2).x),⟨(w_pglog_Cmp F a1.Version y3 e7).ok (es := []) trivial⟩] ?_
 refine GS.cd (decide (y6 ≤ 0)) (fun h8 => ?_) (fun h8 => ?_)
 ·replace hm := br_t h8 hm
  refine GS.seq ?_
  refine bnd_elim hm (fun q ak hm => ?_)
  refine GS.open_ ?_
  refine GR.eu 1 [2,3,4,8,17] [(18,.agg ((kc15 o j.Epoch j.N e f.length n a c.length l b d.length m)).toArray)] [4,5,7] [] [(0,hL 4 0 0)] [qE ((k 0).x)] ?_
  refine GR.cg (w_pglog_Copy_2 F o j e n f a l c b m d ak) [] [8,9,10] [18] [] ⟨rR 1,rR 2,rR 3,trivial⟩ ?_
  rintro ⟨H,I,J,K,L,M⟩
  refine GR.eu 2 [19] [(7,vI 0)] [1,2,3] [(6,.cells ((k 2).x) 28 (kc15 q.1 q.2.1.Epoch q.2.1.N H q.2.2.1.length I J q.2.2.2.1.length K L q.2.2.2.2.length M))] [(2,hS 6)] [qE ((k 2).x),qE true] ?_
  refine GR.dm ?_
  have hy := Option.some.inj hm
  subst hy
  exact GS.rw [6,0] [.agg ((kc15 q.1 q.2.1.Epoch q.2.1.N H q.2.2.1.length I J q.2.2.2.1.length K L q.2.2.2.2.length M)).toArray,vI 0] [qE ((k 2).x)] Tryz.func8 ⟨H,I,J,K,L,M⟩ [8,9,10]
 ·replace hm := br_f h8 hm
  refine GS.skip ?_
  refine GS.seq ?_
  refine GS.seq ?_
  refine grd_elim hm (fun al hm => ?_)
  refine GS.eg [8,17] [(26,.bool ((a1.Version.N - 1) != y3.N))] [7] [] [(2,hL 5 0 0),(3,hP (vI (a1.Version.N - 1))),(5,hL 7 0 0)] [qE ((k 1).x),⟨(I64.w al : oW (a1.Version.N - 1))⟩,qE ((z 2).x)] ?_
  refine GS.cd ((a1.Version.N - 1) != y3.N) (fun ai => ?_) (fun ai => ?_)
  ·replace hm := br_t ai hm
   refine GS.seq ?_
   refine bnd_elim hm (fun r am hm => ?_)
   refine GS.open_ ?_
   refine GR.eu 1 [2,3,4,26] [(27,.agg ((kc15 o j.Epoch j.N e f.length n a c.length l b d.length m)).toArray)] [4,5] [] [(0,hL 4 0 0)] [qE ((k 0).x)] ?_
   refine GR.cg (w_pglog_Copy_2 F o j e n f a l c b m d am) [] [8,9,10] [27] [] ⟨rR 1,rR 2,rR 3,trivial⟩ ?_
   rintro ⟨O,P,Q,R,T,U⟩
   refine GR.eu 2 [28] [(7,vI (-1))] [1,2,3] [(6,.cells ((k 2).x) 28 (kc15 r.1 r.2.1.Epoch r.2.1.N O r.2.2.1.length P Q r.2.2.2.1.length R T r.2.2.2.2.length U))] [(2,hS 6)] [qE ((k 2).x),qE true] ?_
   refine GR.dm ?_
   have hy := Option.some.inj hm
   subst hy
   exact GS.rw [6,0] [.agg ((kc15 r.1 r.2.1.Epoch r.2.1.N O r.2.2.1.length P Q r.2.2.2.1.length R T r.2.2.2.2.length U)).toArray,vI (-1)] [qE ((k 2).x)] Tryz.func8 ⟨O,P,Q,R,T,U⟩ [8,9,10]
  ·replace hm := br_f ai hm
   refine GS.skip ?_
   refine GS.seq ?_
   refine bnd_elim hm (fun p an hm => ?_)
   refine GS.open_ ?_
   refine GR.eu 3 [2,4,26] [(30,.agg ((kc15 o j.Epoch j.N e f.length n a c.length l b d.length m)).toArray),(31,.agg ((kc35 a1.Version.Epoch a1.Version.N a1.Remove a1.Errno a1.Name a1.Client a1.Number)).toArray),(32,.int .u32 a2)] [5] [] [(0,hL 4 0 0),(1,hL 5 0 0)] [qE ((k 0).x),qE ((k 1).x)] ?_
   refine GR.cg (w_pglog_Append F o j e n f a l c b m d a1 a2 an) [] [8,9,10] [30,31,32] [] ⟨rR 1,rR 2,rR 3,trivial⟩ ?_
   rintro ⟨A,D,B,E,C,G⟩
   refine GR.du 6 [33] (fun v => [(9,pA ((v 7).x) 0),(10,vI p.2.2.2.2.2)]) [] (fun v => [(11,.cells ((v 7).x) 28 (kc15 p.1 p.2.1.Epoch p.2.1.N A p.2.2.1.length D B p.2.2.2.1.length E C p.2.2.2.2.1.length G))]) [(7,hN 11),(8,hS 11)] (fun v => [qE ((v 7).x),qE true]) (fun v => ?_)
   refine GR.dm ?_
   refine GS.seq ?_
   refine GS.seq ?_
   refine GS.ez [10] [(37,.bool (p.2.2.2.2.2 != 0))] [] ?_
   refine GS.cd (p.2.2.2.2.2 != 0) (fun aj => ?_) (fun aj => ?_)
   ·replace hm := br_t aj hm
    refine GS.seq ?_
    refine bnd_elim hm (fun s ao hm => ?_)
    refine GS.open_ ?_
    refine GR.eu 1 [3,9,37] [(38,.agg ((kc15 o j.Epoch j.N e f.length n a c.length l b d.length m)).toArray)] [4,8,9,10,11] [] [(0,hL 4 0 0)] [qE ((k 0).x)] ?_
    refine GR.cg (w_pglog_Copy_2 F o j e n f a l c b m d ao) [] [12,13,14] [38] [] ⟨rR 1,rR 2,rR 3,trivial⟩ ?_
    rintro ⟨V,W,Y,Z,aa,ab⟩
    refine GR.eu 2 [39] [(7,vI (-1))] [1,2,3] [(6,.cells ((k 2).x) 28 (kc15 s.1 s.2.1.Epoch s.2.1.N V s.2.2.1.length W Y s.2.2.2.1.length Z aa s.2.2.2.2.length ab))] [(2,hS 6)] [qE ((k 2).x),qE true] ?_
    refine GR.dm ?_
    have hy := Option.some.inj hm
    subst hy
    exact GS.rw [6,0] [.agg ((kc15 s.1 s.2.1.Epoch s.2.1.N V s.2.2.1.length W Y s.2.2.2.1.length Z aa s.2.2.2.2.length ab)).toArray,vI (-1)] [qE ((k 2).x)] Tryz.func8 ⟨V,W,Y,Z,aa,ab⟩ [12,13,14]
   ·replace hm := br_f aj hm
    refine GS.skip ?_
    refine GS.seq ?_
    refine bnd_elim hm (fun u ap hm => ?_)
    refine GS.open_ ?_
    refine GR.eu 1 [3,9,37] [(40,.agg ((kc15 p.1 p.2.1.Epoch p.2.1.N A p.2.2.1.length D B p.2.2.2.1.length E C p.2.2.2.2.1.length G)).toArray)] [1,2,3,4,11] [] [(0,hL 11 0 0)] [qE ((v 7).x)] ?_
    refine GR.cg (w_pglog_Trim F p.1 p.2.1 A D p.2.2.1 B E p.2.2.2.1 C G p.2.2.2.2.1 32 ap) [] [12,13,14] [40] [] ⟨rV 8 (o31 A D p.2.2.1) Cov.osl_rd,rV 9 (o94 B E p.2.2.2.1) Cov.osl_rd,rV 10 (o91 C G p.2.2.2.2.1) Cov.osl_rd,trivial⟩ ?_
    rintro ⟨ac,ad,ae,af,ag,ah⟩
    refine GR.eu 2 [41] [(7,vI 1)] [8,9,10] [(6,.cells ((k 2).x) 28 (kc15 u.1 u.2.1.Epoch u.2.1.N ac u.2.2.1.length ad ae u.2.2.2.1.length af ag u.2.2.2.2.length ah))] [(2,hS 6)] [qE ((k 2).x),qE true] ?_
    refine GR.dm ?_
    have hy := Option.some.inj hm
    subst hy
    exact GS.rw [6,0] [.agg ((kc15 u.1 u.2.1.Epoch u.2.1.N ac u.2.2.1.length ad ae u.2.2.2.1.length af ag u.2.2.2.2.length ah)).toArray,vI 1] [qE ((k 2).x)] Tryz.func8 ⟨ac,ad,ae,af,ag,ah⟩ [12,13,14]

theorem w_tholeref13_Head (F : Nat) (l : Int) (c : S_api_Version) (b : Option Addr) (k : Nat) (a : List S_api_Entry) (d : Option Addr) (i : Nat) (f : List S_api_Last) (e : Option Addr) (j : Nat) (g : List S_api_Item) {y : S_api_Version} (hm : m_tholeref13_Head F l c a f g = some y) : CallG Tryz.prog 18 #[.agg ((kc15 l c.Epoch c.N b a.length k d f.length i e g.length j)).toArray] (X := Unit) (fun (_ : Unit) => .agg #[vI y.Epoch,vI y.N]) [] [r31 b a,r94 d f,r91 e g] (fun (_ : Unit) => []) := by
 rw [m_tholeref13_Head] at hm
 refine GS.st Tryz.func18 Tryz.ntmps18 (fun w => ?_)
 refine GS.seq ?_
 refine GS.dg [0] (fun h => [(1,pA ((h 0).x) 0),(2,pA ((h 1).x) 0)]) [] (fun h => [(4,.cells ((h 0).x) 28 (kc15 l c.Epoch c.N b a.length k d f.length i e g.length j)),(5,.cells ((h 1).x) 23 [vI 0,vI 0])]) [(0,hN 4),(1,hN 5)] (fun h => []) (fun h => ?_)
 refine GS.seq ?_
 refine GS.seq ?_
 refine GS.eg [] [(6,.bool ((a.length : Int) == 0))] [] [] [(1,hL 4 0 0)] [qE ((h 0).x)] ?_
 refine GS.cd ((a.length : Int) == 0) (fun h3 => ?_) (fun h3 => ?_)
 ·replace hm := br_t h3 hm
  refine GS.seq ?_
  refine GS.eg [1,6] [] [1,2,3,4] [(5,.cells ((h 1).x) 23 [vI c.Epoch,vI c.N])] [(1,hL 4 0 0),(2,hS 5)] [qE ((h 0).x),qE ((h 1).x),qE true] ?_
  have hy := Option.some.inj hm
  subst hy
  exact GS.rv [5] [qE ((h 1).x)] Tryz.func18 () []
 ·replace hm := br_f h3 hm
  refine GS.skip ?_
  refine GS.seq ?_
  refine grd_elim hm (fun g6 hm => ?_)
  refine grd_elim hm (fun g7 hm => ?_)
  refine GS.eg [1,6] [] [1,2,3,4] [(5,.cells ((h 1).x) 23 [vI (((a.getD (Int.toNat ((a.length : Int) - 1)) dS_api_Entry).Version).Epoch),vI (((a.getD (Int.toNat ((a.length : Int) - 1)) dS_api_Entry).Version).N)])] [(1,hL 4 0 0),(3,hL 4 0 0),(5,hP (vI ((a.length : Int) - 1))),(6,hA (.idx 1 (Int.toNat ((a.length : Int) - 1)))),(8,hR 1 (Int.toNat ((a.length : Int) - 1)) 0 [vI (((a.getD (Int.toNat ((a.length : Int) - 1)) dS_api_Entry).Version).Epoch),vI (((a.getD (Int.toNat ((a.length : Int) - 1)) dS_api_Entry).Version).N),.bool ((a.getD (Int.toNat ((a.length : Int) - 1)) dS_api_Entry).Remove),vI ((a.getD (Int.toNat ((a.length : Int) - 1)) dS_api_Entry).Errno),.string ((a.getD (Int.toNat ((a.length : Int) - 1)) dS_api_Entry).Name),vI ((a.getD (Int.toNat ((a.length : Int) - 1)) dS_api_Entry).Client),vI ((a.getD (Int.toNat ((a.length : Int) - 1)) dS_api_Entry).Number)]),(9,hS 5)] [qE ((h 0).x),qE ((h 0).x),⟨(I64.w g6 : oW ((a.length : Int) - 1))⟩,qE b,⟨(mlen S_api_Entry.row a : a.length = (List.map S_api_Entry.row a).length)⟩,⟨g7.eq⟩,⟨g7.2⟩,qE (blk b),qE (offs b + (Int.toNat ((a.length : Int) - 1)) * 7),⟨(map_at S_api_Entry.row dS_api_Entry g7.2 : (List.map S_api_Entry.row a)[(Int.toNat ((a.length : Int) - 1))]? = some [vI (((a.getD (Int.toNat ((a.length : Int) - 1)) dS_api_Entry).Version).Epoch),vI (((a.getD (Int.toNat ((a.length : Int) - 1)) dS_api_Entry).Version).N),.bool ((a.getD (Int.toNat ((a.length : Int) - 1)) dS_api_Entry).Remove),vI ((a.getD (Int.toNat ((a.length : Int) - 1)) dS_api_Entry).Errno),.string ((a.getD (Int.toNat ((a.length : Int) - 1)) dS_api_Entry).Name),vI ((a.getD (Int.toNat ((a.length : Int) - 1)) dS_api_Entry).Client),vI ((a.getD (Int.toNat ((a.length : Int) - 1)) dS_api_Entry).Number)])⟩,qE ((h 1).x),qE true] ?_
  have hy := Option.some.inj hm
  subst hy
  exact GS.rv [5] [qE ((h 1).x)] Tryz.func18 () []

theorem w_tholeref01_Crc_2 (F : Nat) {y : Int} (hm : m_tholeref01_Crc_2 F = some y) : CallG Tryz.prog 17 #[.slice none 0 0] (X := Unit) (fun (_ : Unit) => .int .u32 y) [] [] (fun (_ : Unit) => []) := by
 rw [m_tholeref01_Crc_2] at hm
 refine GS.st Tryz.func17 Tryz.ntmps17 (fun w => ?_)
 refine GS.seq ?_
 refine GS.ez [] [] [] ?_
 refine GS.seq ?_
 refine GS.ez [] [(3,.int .u32 4294967295)] [] ?_
 refine GS.seq ?_
 refine GS.seq ?_
 refine GS.ez [0] [(8,.slice none 0 0),(9,vI 0),(10,vI 0)] [] ?_
 refine GS.block ?_
 refine GS.loop ?_
 refine GS.seq ?_
 refine GS.ez [] [(11,.bool false)] [] ?_
 refine GS.seq ?_
 refine GS.cF ?_
 refine GS.exit rfl ?_
 refine GS.seq ?_
 refine GS.ez [3,8,9,10,11] [(2,.int .u32 0)] [] ?_
 have hy := Option.some.inj hm
 subst hy
 exact GS.rv [0] [] Tryz.func17 () []

theorem w___primary_Machine__to_4 (F q : Nat) (i j k l m a b c d e f g : Value) (W ad ae af ag Z aa ab ac Y r s t u v z A B C D E G H : Int) (I : Bool) (J : Int) (K : ByteArray) (L M : Int) (N : ByteArray) (O P Q : Int) (R : ByteArray) (T U : Int) (h : Option Addr) (p : Nat) (n : List ByteArray) (V : Int) {y : Unit} (hm : m___primary_Machine__to_4 F W ad ae af ag Z aa ab ac Y r s t u v z A B C D E G H I J K L M N O P Q R T U n V = some y) : CallG Tryz.prog 70 #[pA q 0,vI 0,.agg ((kc105 W ad ae af ag Z aa ab ac Y r s t u v z A B C D E G H I J K L M N O P Q R T U h n.length p V)).toArray] (X := Unit) (fun (_ : Unit) => .agg ((kc108 W Y r s t u v z A B C D E G H I J K L M N O P Q R T U h n.length p V)).toArray) [] [.rd (some ⟨q,0,none⟩) 17 [(kc18 i j k l m a b c d e f g)],r9 h n] (fun (_ : Unit) => []) := by
 rw [m___primary_Machine__to_4] at hm
 refine GS.st Tryz.func70 Tryz.ntmps70 (fun w => ?_)
 refine GS.seq ?_
 refine GS.dg [2] (fun o => [(5,pA ((o 0).x) 0),(6,pA ((o 1).x) 0)]) [] (fun o => [(3,.cells ((o 0).x) 65 (kc105 W ad ae af ag Z aa ab ac Y r s t u v z A B C D E G H I J K L M N O P Q R T U h n.length p V)),(4,.cells ((o 1).x) 65 (kc19))]) [(0,hN 3),(1,hN 4)] (fun o => []) (fun o => ?_)
 refine GS.seq ?_
 refine GS.eg [1] [] [] [(3,.cells ((o 0).x) 65 (kc107 W Z aa ab ac Y r s t u v z A B C D E G H I J K L M N O P Q R T U h n.length p V))] [(3,hR 1 0 3 (kc18 i j k l m a b c d e f g)),(8,hS 3),(10,hS 3)] [qE q,qE (offs (some ⟨q,0,none⟩) + (0 * 17 + 3)),qE (some (kc18 i j k l m a b c d e f g)),qE ((o 0).x),qE true,qE ((o 0).x),qE true] ?_
 refine GS.seq ?_
 refine GS.yg [0] [] [1] [(3,.cells ((o 0).x) 65 (kc108 W Y r s t u v z A B C D E G H I J K L M N O P Q R T U h n.length p V))] [(3,hR 1 0 4 (kc18 i j k l m a b c d e f g)),(7,hR 1 0 0 (kc18 i j k l m a b c d e f g)),(11,hR 1 0 2 (kc18 i j k l m a b c d e f g)),(13,hS 3),(15,hS 3),(17,hS 3)] [qE q,qE (offs (some ⟨q,0,none⟩) + (0 * 17 + 4)),qE (some (kc18 i j k l m a b c d e f g)),qE q,qE (offs (some ⟨q,0,none⟩) + (0 * 17 + 0)),qE (some (kc18 i j k l m a b c d e f g)),qE q,qE (offs (some ⟨q,0,none⟩) + (0 * 17 + 2)),qE (some (kc18 i j k l m a b c d e f g)),qE ((o 0).x),qE true,qE ((o 0).x),qE true,qE ((o 0).x),qE true] ?_
 refine GS.seq ?_
 refine GS.eg [5] [] [3] [(4,.cells ((o 1).x) 65 (kc108 W Y r s t u v z A B C D E G H I J K L M N O P Q R T U h n.length p V))] [(0,hL 3 0 0),(1,hS 4)] [qE ((o 0).x),qE ((o 1).x),qE true] ?_
 have hy := Option.some.inj hm
 subst hy
 exact GS.rv [4] [qE ((o 1).x)] Tryz.func70 () []

theorem w___primary_Machine__answer_2 (F ad : Nat) (U V W Y Z K L M O P Q R : Value) (bd aa ab be bf bg bh bi bj J e ae af ag ah ai aj ak al am an ao ap : Int) (aq : Bool) (ar : Int) (au : ByteArray) (av aw : Int) (ax : ByteArray) (ay az a0 : Int) (a1 : ByteArray) (f : Option Addr) (ac : Nat) (T : List UInt8) (a2 a3 a4 bl a5 a6 a7 a8 a9 ba bb bc bm bk g h i j k l m n o p q r : Int) (s : Bool) (t : Int) (u : ByteArray) (v z : Int) (A : ByteArray) (B C D : Int) (E : ByteArray) (G H : Int) (a : Option Addr) (d : Nat) (b : List ByteArray) (I : Int) {y : Unit} (hm : m___primary_Machine__answer_2 F bd aa ab be bf bg bh bi bj J e ae af ag ah ai aj ak al am an ao ap aq ar au av aw ax ay az a0 a1 T a2 a3 a4 bl a5 a6 a7 a8 a9 ba bb bc bm bk g h i j k l m n o p q r s t u v z A B C D E G H b I = some y) : CallG Tryz.prog 45 #[pA ad 0,.agg ((kc12 bd aa ab be bf bg bh bi bj J e ae af ag ah ai aj ak al am an ao ap aq ar au av aw ax ay az a0 a1 f T.length ac a2 a3 a4)).toArray,.agg ((kc105 bl a5 a6 a7 a8 a9 ba bb bc bm bk g h i j k l m n o p q r s t u v z A B C D E G H a b.length d I)).toArray] (X := Unit) (fun (_ : Unit) => .agg ((kc110 aa ab J e g h i j k l m n o p q r s t u v z A B C D E G H a b.length d I)).toArray) [] [.rd (some ⟨ad,0,none⟩) 17 [(kc18 U V W Y Z K L M O P Q R)],r5 f T,r9 a b] (fun (_ : Unit) => []) := by
 rw [m___primary_Machine__answer_2] at hm
 refine GS.st Tryz.func45 Tryz.ntmps45 (fun w => ?_)
 refine GS.seq ?_
 refine GS.dg [1,2] (fun c => [(4,pA ((c 0).x) 0),(5,pA ((c 1).x) 0),(6,pA ((c 2).x) 0)]) [] (fun c => [(4,.cells ((c 0).x) 65 (kc12 bd aa ab be bf bg bh bi bj J e ae af ag ah ai aj ak al am an ao ap aq ar au av aw ax ay az a0 a1 f T.length ac a2 a3 a4)),(5,.cells ((c 1).x) 65 (kc105 bl a5 a6 a7 a8 a9 ba bb bc bm bk g h i j k l m n o p q r s t u v z A B C D E G H a b.length d I)),(6,.cells ((c 2).x) 65 (kc19))]) [(0,hN 4),(1,hN 5),(2,hN 6)] (fun c => []) (fun c => ?_)
 refine GS.seq ?_
 refine GS.yg [] [] [] [(5,.cells ((c 1).x) 65 (kc106 a5 a6 a7 a8 a9 ba bb bc J e g h i j k l m n o p q r s t u v z A B C D E G H a b.length d I))] [(1,hL 4 0 0),(3,hL 4 0 0),(5,hS 5),(7,hS 5),(9,hS 5)] [qE ((c 0).x),qE ((c 0).x),qE ((c 1).x),qE true,qE ((c 1).x),qE true,qE ((c 1).x),qE true] ?_
 refine GS.seq ?_
 refine bnd_elim hm (fun y4 e5 hm => ?_)
 refine GS.eg [0] [] [1] [(5,.cells ((c 1).x) 65 (kc109 J e g h i j k l m n o p q r s t u v z A B C D E G H a b.length d I))] [(1,hL 5 0 0),(2,hC [1,3] (.agg ((kc109 J e g h i j k l m n o p q r s t u v z A B C D E G H a b.length d I)).toArray)),(3,hS 5)] [qE ((c 1).x),⟨(w___primary_Machine__to_4 F ad U V W Y Z K L M O P Q R 31 a5 a6 a7 a8 a9 ba bb bc J e g h i j k l m n o p q r s t u v z A B C D E G H a d b I e5).ok (es := [some (.rd (some ⟨ad,0,none⟩) 17 [(kc18 U V W Y Z K L M O P Q R)]),some (r9 a b)]) ⟨(.inl ⟨_,mm0,Cov.refl _⟩),(.inl ⟨_,mm1,Cov.refl _⟩),trivial⟩⟩,qE ((c 1).x),qE true] ?_
 refine GS.seq ?_
 refine GS.eg [4] [] [2,4] [(5,.cells ((c 1).x) 65 (kc110 aa ab J e g h i j k l m n o p q r s t u v z A B C D E G H a b.length d I))] [(1,hL 4 0 0),(3,hS 5)] [qE ((c 0).x),qE ((c 1).x),qE true] ?_
 refine GS.seq ?_
 refine GS.eg [5] [] [5] [(6,.cells ((c 2).x) 65 (kc110 aa ab J e g h i j k l m n o p q r s t u v z A B C D E G H a b.length d I))] [(0,hL 5 0 0),(1,hS 6)] [qE ((c 1).x),qE ((c 2).x),qE true] ?_
 have hy := Option.some.inj hm
 subst hy
 exact GS.rv [6] [qE ((c 2).x)] Tryz.func45 () []

end Go.Proofs.YtjnbkhnebmlilaaGreat
