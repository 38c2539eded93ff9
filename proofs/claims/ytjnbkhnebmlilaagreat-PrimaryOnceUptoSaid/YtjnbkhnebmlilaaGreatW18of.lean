/-
 CHAPTER 18o: the functions do what their models say (6).
-/
import Derived.Test.YtjnbkhnebmlilaaGreatE18o
import Derived.Test.YtjnbkhnebmlilaaGreatW18ob
import Derived.Test.YtjnbkhnebmlilaaGreatW18oe
set_option linter.unusedVariables false
set_option linter.unusedSimpArgs false
set_option maxRecDepth 100000
set_option maxHeartbeats 8000000
namespace Go.Proofs.YtjnbkhnebmlilaaGreat
open Go Go.RowKit Sx

theorem w___primary_Machine__stored_2 (F bh : Nat) (av : Option Addr) (bc : Nat) (be bf bg : Int) (ap : Option Addr) (ba : Nat) (az : List S_api_Entry) (an : Option Addr) (aw : Nat) (aq : List S_api_Last) (ao : Option Addr) (ax : Nat) (ar : List S_api_Item) (au : Option Addr) (bb m : Nat) (ad ae af ag ah ai aj ak al am p q r s u v z A B C D E G : Int) (H : Bool) (I : Int) (J : ByteArray) (K L : Int) (M : ByteArray) (O P Q : Int) (R : ByteArray) (a : Option Addr) (k : Nat) (f : List UInt8) (T U V W Y : Int) (n : Bool) (o : Int) (j : ByteArray) (Z aa : Int) (c : ByteArray) (d e ab : Int) (b : Option Addr) (l : Nat) (bd : Int) {y : R___primary_Machine__stored_2} (hm : m___primary_Machine__stored_2 F be bf bg az aq ar ad ae af ag ah ai aj ak al am p q r s u v z A B C D E G H I J K L M O P Q R f T U V W Y n o j Z aa c d e ab bd = some y) : CallG Tryz.prog 90 #[pA bh 0,pA m 0,.agg ((kc13)).toArray] (X := Option Addr × Nat × Option Addr × Nat × Option Addr × Nat) (fun ⟨x0,x1,x2,x3,x4,x5⟩ => .agg ((kc55 y.a0 y.a1 y.a2 x0 y.a3.length x1 x2 y.a4.length x3 x4 y.a5.length x5 y.a6 y.a7 y.a8 y.a9 y.a10 y.a11)).toArray) [] [.rd av 1 [[vI 1]],r31 ap az,r94 an aq,r91 ao ar,.rd au 46 [],r5 a f,.rd b 1 [[vI 1]],.rd (some ⟨m,0,none⟩) 61 [(kc52 ad ae af ag ah ai aj ak al am p q r s u v z A B C D E G H I J K L M O P Q R a f.length k T U V W Y n o j Z aa c d e ab b l)],.rd (some ⟨bh,0,none⟩) 17 [(kc39 av bc be bf bg ap az.length ba an aq.length aw ao ar.length ax au bb m bd)]] (fun ⟨x0,x1,x2,x3,x4,x5⟩ => [o31 x0 x1 y.a3,o94 x2 x3 y.a4,o91 x4 x5 y.a5]) := by
 rw [m___primary_Machine__stored_2] at hm
 refine GS.st Tryz.func90 Tryz.ntmps90 (fun w => ?_)
 refine GS.seq ?_
 refine GS.dg [2] (fun ac => [(5,pA ((ac 0).x) 0),(6,pA ((ac 1).x) 0)]) [] (fun ac => [(10,.cells ((ac 0).x) 68 (kc13)),(11,.cells ((ac 1).x) 68 (kc13))]) [(0,hN 10),(1,hN 11)] (fun ac => []) (fun ac => ?_)
 refine GS.seq ?_
 refine bnd_elim hm (fun y3 e4 hm => ?_)
 refine GS.open_ ?_
 refine GR.eu 4 [0] [(10,.agg ((kc15 be bf bg ap az.length ba an aq.length aw ao ar.length ax)).toArray)] [1,5,9] [] [(3,hR 9 0 6 (kc39 av bc be bf bg ap az.length ba an aq.length aw ao ar.length ax au bb m bd))] [qE bh,qE (offs (some ⟨bh,0,none⟩) + (0 * 17 + 6)),qE (some (kc39 av bc be bf bg ap az.length ba an aq.length aw ao ar.length ax au bb m bd))] ?_
 refine GR.cg (w_pglog_Copy_2 F be (S_api_Version.mk bf bg) ap ba az an aw aq ao ax ar e4) [] [12,13,14] [10] [] ⟨rR 2,rR 3,rR 4,trivial⟩ ?_
 rintro ⟨x5,x6,x7,x8,x9,ay⟩
 refine GR.eu 4 [11] [] [2,3,4] [(10,.cells ((ac 0).x) 68 (kc41 y3.1 y3.2.1.Epoch y3.2.1.N x5 y3.2.2.1.length x6 x7 y3.2.2.2.1.length x8 x9 y3.2.2.2.2.length ay))] [(6,hS 10),(8,hS 10)] [qE ((ac 0).x),qE true,qE ((ac 0).x),qE true] ?_
 refine GR.dm ?_
 refine GS.seq ?_
 refine GS.seq ?_
 refine GS.eg [] [(19,.bool (o == 0))] [] [] [(4,hR 8 0 50 (kc52 ad ae af ag ah ai aj ak al am p q r s u v z A B C D E G H I J K L M O P Q R a f.length k T U V W Y n o j Z aa c d e ab b l))] [qE m,qE (offs (some ⟨m,0,none⟩) + (0 * 61 + 50)),qE (some (kc52 ad ae af ag ah ai aj ak al am p q r s u v z A B C D E G H I J K L M O P Q R a f.length k T U V W Y n o j Z aa c d e ab b l))] ?_
 refine GS.cd (o == 0) (fun bi => ?_) (fun bi => ?_)
 ·replace hm := br_t bi hm
  refine GS.seq ?_
  refine GS.eg [19] [(24,.bool n)] [] [] [(4,hR 8 0 49 (kc52 ad ae af ag ah ai aj ak al am p q r s u v z A B C D E G H I J K L M O P Q R a f.length k T U V W Y n o j Z aa c d e ab b l))] [qE m,qE (offs (some ⟨m,0,none⟩) + (0 * 61 + 49)),qE (some (kc52 ad ae af ag ah ai aj ak al am p q r s u v z A B C D E G H I J K L M O P Q R a f.length k T U V W Y n o j Z aa c d e ab b l))] ?_
  refine GS.cd n (fun bj => ?_) (fun bj => ?_)
  ·replace hm := br_t bj hm
   refine GS.yg [1,24] [] [6,7,8] [(10,.cells ((ac 0).x) 68 (kc53 y3.1 y3.2.1.Epoch y3.2.1.N x5 y3.2.2.1.length x6 x7 y3.2.2.2.1.length x8 x9 y3.2.2.2.2.length ay j))] [(4,hR 8 0 51 (kc52 ad ae af ag ah ai aj ak al am p q r s u v z A B C D E G H I J K L M O P Q R a f.length k T U V W Y n o j Z aa c d e ab b l)),(6,hS 10),(8,hS 10)] [qE m,qE (offs (some ⟨m,0,none⟩) + (0 * 61 + 51)),qE (some (kc52 ad ae af ag ah ai aj ak al am p q r s u v z A B C D E G H I J K L M O P Q R a f.length k T U V W Y n o j Z aa c d e ab b l)),qE ((ac 0).x),qE true,qE ((ac 0).x),qE true] ?_
   refine GS.seq ?_
   refine GS.eg [5] [] [10] [(11,.cells ((ac 1).x) 68 (kc53 y3.1 y3.2.1.Epoch y3.2.1.N x5 y3.2.2.1.length x6 x7 y3.2.2.2.1.length x8 x9 y3.2.2.2.2.length ay j))] [(0,hL 10 0 0),(1,hS 11)] [qE ((ac 0).x),qE ((ac 1).x),qE true] ?_
   have hy := Option.some.inj hm
   subst hy
   exact GS.rv [11] [qE ((ac 1).x)] Tryz.func90 ⟨x5,x6,x7,x8,x9,ay⟩ [12,13,14]
  ·replace hm := br_f bj hm
   refine bnd_elim hm (fun bl bk hm => ?_)
   refine GS.eg [1,24] [] [6,7,8] [(10,.cells ((ac 0).x) 68 (kc54 y3.1 y3.2.1.Epoch y3.2.1.N x5 y3.2.2.1.length x6 x7 y3.2.2.2.1.length x8 x9 y3.2.2.2.2.length ay c d e))] [(3,hR 8 0 54 (kc52 ad ae af ag ah ai aj ak al am p q r s u v z A B C D E G H I J K L M O P Q R a f.length k T U V W Y n o j Z aa c d e ab b l)),(4,hC [] (.agg ((kc21 c d e)).toArray)),(6,hS 10),(8,hS 10)] [qE m,qE (offs (some ⟨m,0,none⟩) + (0 * 61 + 54)),qE (some (kc52 ad ae af ag ah ai aj ak al am p q r s u v z A B C D E G H I J K L M O P Q R a f.length k T U V W Y n o j Z aa c d e ab b l)),⟨(w_primary_copied_2 F c d e bk).ok (es := []) trivial⟩,qE ((ac 0).x),qE true,qE ((ac 0).x),qE true] ?_
   refine GS.seq ?_
   refine GS.eg [5] [] [10] [(11,.cells ((ac 1).x) 68 (kc54 y3.1 y3.2.1.Epoch y3.2.1.N x5 y3.2.2.1.length x6 x7 y3.2.2.2.1.length x8 x9 y3.2.2.2.2.length ay c d e))] [(0,hL 10 0 0),(1,hS 11)] [qE ((ac 0).x),qE ((ac 1).x),qE true] ?_
   have hy := Option.some.inj hm
   subst hy
   exact GS.rv [11] [qE ((ac 1).x)] Tryz.func90 ⟨x5,x6,x7,x8,x9,ay⟩ [12,13,14]
 ·replace hm := br_f bi hm
  refine GS.skip ?_
  refine GS.seq ?_
  refine GS.eg [1,5,19] [] [6,7,8,10] [(11,.cells ((ac 1).x) 68 (kc41 y3.1 y3.2.1.Epoch y3.2.1.N x5 y3.2.2.1.length x6 x7 y3.2.2.2.1.length x8 x9 y3.2.2.2.2.length ay))] [(0,hL 10 0 0),(1,hS 11)] [qE ((ac 0).x),qE ((ac 1).x),qE true] ?_
  have hy := Option.some.inj hm
  subst hy
  exact GS.rv [11] [qE ((ac 1).x)] Tryz.func90 ⟨x5,x6,x7,x8,x9,ay⟩ [12,13,14]

theorem w___primary_Machine__to_3 (F n : Nat) (h i j k l a b c d e f g : Value) (T aa ab ac ad V W Y Z U o p q r s t u v z A B C D : Int) (E : Bool) (G : Int) (H : ByteArray) (I J : Int) (K : ByteArray) (L M N : Int) (O : ByteArray) (P Q R : Int) {y : Unit} (hm : m___primary_Machine__to_3 F T aa ab ac ad V W Y Z U o p q r s t u v z A B C D E G H I J K L M N O P Q R = some y) : CallG Tryz.prog 70 #[pA n 0,vI 1,.agg ((kc23 T aa ab ac ad V W Y Z U o p q r s t u v z A B C D E G H I J K L M N O P Q R)).toArray] (X := Unit) (fun (_ : Unit) => .agg ((kc58 T U o p q r s t u v z A B C D E G H I J K L M N O P Q R)).toArray) [] [.rd (some ⟨n,0,none⟩) 17 [(kc18 h i j k l a b c d e f g)]] (fun (_ : Unit) => []) := by
 rw [m___primary_Machine__to_3] at hm
 refine GS.st Tryz.func70 Tryz.ntmps70 (fun w => ?_)
 refine GS.seq ?_
 refine GS.dg [2] (fun m => [(5,pA ((m 0).x) 0),(6,pA ((m 1).x) 0)]) [] (fun m => [(2,.cells ((m 0).x) 65 (kc23 T aa ab ac ad V W Y Z U o p q r s t u v z A B C D E G H I J K L M N O P Q R)),(3,.cells ((m 1).x) 65 (kc19))]) [(0,hN 2),(1,hN 3)] (fun m => []) (fun m => ?_)
 refine GS.seq ?_
 refine GS.eg [1] [] [] [(2,.cells ((m 0).x) 65 (kc57 T V W Y Z U o p q r s t u v z A B C D E G H I J K L M N O P Q R))] [(3,hR 1 0 3 (kc18 h i j k l a b c d e f g)),(8,hS 2),(10,hS 2)] [qE n,qE (offs (some ⟨n,0,none⟩) + (0 * 17 + 3)),qE (some (kc18 h i j k l a b c d e f g)),qE ((m 0).x),qE true,qE ((m 0).x),qE true] ?_
 refine GS.seq ?_
 refine GS.yg [0] [] [1] [(2,.cells ((m 0).x) 65 (kc58 T U o p q r s t u v z A B C D E G H I J K L M N O P Q R))] [(3,hR 1 0 4 (kc18 h i j k l a b c d e f g)),(7,hR 1 0 0 (kc18 h i j k l a b c d e f g)),(11,hR 1 0 2 (kc18 h i j k l a b c d e f g)),(13,hS 2),(15,hS 2),(17,hS 2)] [qE n,qE (offs (some ⟨n,0,none⟩) + (0 * 17 + 4)),qE (some (kc18 h i j k l a b c d e f g)),qE n,qE (offs (some ⟨n,0,none⟩) + (0 * 17 + 0)),qE (some (kc18 h i j k l a b c d e f g)),qE n,qE (offs (some ⟨n,0,none⟩) + (0 * 17 + 2)),qE (some (kc18 h i j k l a b c d e f g)),qE ((m 0).x),qE true,qE ((m 0).x),qE true,qE ((m 0).x),qE true] ?_
 refine GS.seq ?_
 refine GS.eg [5] [] [2] [(3,.cells ((m 1).x) 65 (kc58 T U o p q r s t u v z A B C D E G H I J K L M N O P Q R))] [(0,hL 2 0 0),(1,hS 3)] [qE ((m 0).x),qE ((m 1).x),qE true] ?_
 have hy := Option.some.inj hm
 subst hy
 exact GS.rv [3] [qE ((m 1).x)] Tryz.func70 () []

theorem w___primary_Machine__ask_2 (F a1 : Nat) (aw ax ay az a0 ao ap aq : Value) (k : Nat) (ad ae af ag ah ai aj ak al am l m n o p q r s u v z A B C D E G H I J K L M N O P Q R T U V W Y Z aa ab : Value) (d e : Int) (f : Bool) (g : Int) (h : ByteArray) (i j : Int) (a : ByteArray) (b c an : Int) (ac ar au av : Value) {y : Unit} (hm : m___primary_Machine__ask_2 F d e f g h i j a b c an = some y) : CallG Tryz.prog 49 #[pA a1 0,vI 1] (X := Unit) (fun (_ : Unit) => .agg ((kc60 d e f g h i j a b c)).toArray) [] [.rd (some ⟨k,0,none⟩) 61 [(kc56 ad ae af ag ah ai aj ak al am l m n o p q r s u v z A B C D E G H I J K L M N O P Q R T U V W Y Z aa ab d e f g h i j a b c an ac)],.rd (some ⟨a1,0,none⟩) 17 [(kc45 aw ax ay az a0 ao ap aq k ar au av)]] (fun (_ : Unit) => []) := by
 rw [m___primary_Machine__ask_2] at hm
 refine GS.st Tryz.func49 Tryz.ntmps49 (fun w => ?_)
 refine GS.seq ?_
 refine GS.dg [] (fun a2 => [(4,pA ((a2 0).x) 0)]) [] (fun a2 => [(3,.cells ((a2 0).x) 65 (kc19))]) [(0,hN 3)] (fun a2 => []) (fun a2 => ?_)
 refine GS.seq ?_
 refine GS.eg [] [(5,pA k 0)] [] [] [(3,hR 2 0 13 (kc45 aw ax ay az a0 ao ap aq k ar au av))] [qE a1,qE (offs (some ⟨a1,0,none⟩) + (0 * 17 + 13)),qE (some (kc45 aw ax ay az a0 ao ap aq k ar au av))] ?_
 refine GS.seq ?_
 refine GS.seq ?_
 refine GS.eg [] [(13,.bool true)] [] [] [(3,hR 1 0 46 (kc56 ad ae af ag ah ai aj ak al am l m n o p q r s u v z A B C D E G H I J K L M N O P Q R T U V W Y Z aa ab d e f g h i j a b c an ac))] [qE k,qE (offs (some ⟨k,0,none⟩) + (0 * 61 + 46)),qE (some (kc56 ad ae af ag ah ai aj ak al am l m n o p q r s u v z A B C D E G H I J K L M N O P Q R T U V W Y Z aa ab d e f g h i j a b c an ac))] ?_
 refine GS.cT ?_
 refine GS.seq ?_
 refine bnd_elim hm (fun y5 e6 hm => ?_)
 refine bnd_elim hm (fun y7 e8 hm => ?_)
 refine GS.yg [0,1,5,13] [] [1,2] [(3,.cells ((a2 0).x) 65 (kc60 d e f g h i j a b c))] [(5,hR 1 0 47 (kc56 ad ae af ag ah ai aj ak al am l m n o p q r s u v z A B C D E G H I J K L M N O P Q R T U V W Y Z aa ab d e f g h i j a b c an ac)),(9,hR 1 0 54 (kc56 ad ae af ag ah ai aj ak al am l m n o p q r s u v z A B C D E G H I J K L M N O P Q R T U V W Y Z aa ab d e f g h i j a b c an ac)),(10,hC [] (.agg ((kc21 a b c)).toArray)),(12,hC [2] (.agg ((kc60 d e f g h i j a b c)).toArray)),(13,hS 3)] [qE k,qE (offs (some ⟨k,0,none⟩) + (0 * 61 + 47)),qE (some (kc56 ad ae af ag ah ai aj ak al am l m n o p q r s u v z A B C D E G H I J K L M N O P Q R T U V W Y Z aa ab d e f g h i j a b c an ac)),qE k,qE (offs (some ⟨k,0,none⟩) + (0 * 61 + 54)),qE (some (kc56 ad ae af ag ah ai aj ak al am l m n o p q r s u v z A B C D E G H I J K L M N O P Q R T U V W Y Z aa ab d e f g h i j a b c an ac)),⟨(w_primary_copied_2 F a b c e6).ok (es := []) trivial⟩,⟨(w___primary_Machine__to_3 F a1 aw ax ay az a0 ao ap aq (pA k 0) ar au av 32 0 0 0 0 0 0 0 0 0 0 0 0 0 0 0 0 0 0 0 0 d e f g h i j a b c 0 (ByteArray.mk #[]) 0 0 0 e8).ok (es := [some (.rd (some ⟨a1,0,none⟩) 17 [(kc45 aw ax ay az a0 ao ap aq k ar au av)])]) ⟨(.inl ⟨_,mm0,Cov.refl _⟩),trivial⟩⟩,qE ((a2 0).x),qE true] ?_
 have hy := Option.some.inj hm
 subst hy
 exact GS.rv [3] [qE ((a2 0).x)] Tryz.func49 () []

theorem w___primary_Machine__done_2 (F bu : Nat) (an : Option Addr) (ba : Nat) (bl bm bn : Int) (ao : Option Addr) (bb : Nat) (bg : List S_api_Entry) (f : Option Addr) (a3 : Nat) (a1 : List S_api_Last) (g : Option Addr) (a4 : Nat) (a2 : List S_api_Item) (h : Option Addr) (a5 d : Nat) (ap aq ar au av aw ax ay az a0 n o p q r s u v z A B C D : Int) (E : Bool) (G : Int) (H : ByteArray) (I J : Int) (K : ByteArray) (L M O : Int) (P : ByteArray) (a : Option Addr) (i : Nat) (c : List UInt8) (Q R T U V : Int) (W : Bool) (Y : Int) (Z : ByteArray) (aa ab : Int) (ac : ByteArray) (ad ae af : Int) (b : Option Addr) (j : Nat) (bh bo bp bq : Int) (k : Option Addr) (bc : Nat) (a7 : List S_api_Entry) (l : Option Addr) (bd : Nat) (a8 : List S_api_Last) (m : Option Addr) (be : Nat) (a9 : List S_api_Item) (br : Bool) (bs : ByteArray) (bt bi : Int) (bj : Bool) (bk : ByteArray) (e : Option Addr) (a6 : Nat) (ag ah : Int) (ai : Bool) (aj : Int) (ak : ByteArray) (al am : Int) {y : Unit} (hm : m___primary_Machine__done_2 F bl bm bn bg a1 a2 ap aq ar au av aw ax ay az a0 n o p q r s u v z A B C D E G H I J K L M O P c Q R T U V W Y Z aa ab ac ad ae af bh bo bp bq a7 a8 a9 br bs bt bi bj bk ag ah ai aj ak al am = some y) : CallG Tryz.prog 69 #[pA bu 0,.agg ((kc62 bo bp bq k a7.length bc l a8.length bd m a9.length be br bs bt bi bj bk e a6)).toArray] (X := Unit) (fun (_ : Unit) => .agg ((kc62 bo bp bq k a7.length bc l a8.length bd m a9.length be br bs bt bi bj bk e a6)).toArray) [] [.rd an 1 [[vI 1]],r31 ao bg,r94 f a1,r91 g a2,.rd h 46 [],r5 a c,.rd b 1 [[vI 1]],.rd (some ⟨d,0,none⟩) 61 [(kc52 ap aq ar au av aw ax ay az a0 n o p q r s u v z A B C D E G H I J K L M O P a c.length i Q R T U V W Y Z aa ab ac ad ae af b j)],.rd (some ⟨bu,0,none⟩) 17 [(kc39 an ba bl bm bn ao bg.length bb f a1.length a3 g a2.length a4 h a5 d bh)],r31 k a7,r94 l a8,r91 m a9,.rd e 46 [(kc61 ag ah ai aj ak al am)]] (fun (_ : Unit) => []) := by
 rw [m___primary_Machine__done_2] at hm
 refine GS.st Tryz.func69 Tryz.ntmps69 (fun w => ?_)
 refine GS.seq ?_
 refine GS.dg [1] (fun bf => [(3,pA ((bf 0).x) 0),(4,pA ((bf 1).x) 0)]) [] (fun bf => [(14,.cells ((bf 0).x) 68 (kc62 bo bp bq k a7.length bc l a8.length bd m a9.length be br bs bt bi bj bk e a6)),(15,.cells ((bf 1).x) 68 (kc13))]) [(0,hN 14),(1,hN 15)] (fun bf => []) (fun bf => ?_)
 refine GS.seq ?_
 refine GS.eg [] [(5,pA d 0)] [] [] [(3,hR 9 0 13 (kc39 an ba bl bm bn ao bg.length bb f a1.length a3 g a2.length a4 h a5 d bh))] [qE bu,qE (offs (some ⟨bu,0,none⟩) + (0 * 17 + 13)),qE (some (kc39 an ba bl bm bn ao bg.length bb f a1.length a3 g a2.length a4 h a5 d bh))] ?_
 refine GS.seq ?_
 refine GS.seq ?_
 refine GS.eg [] [(25,.bool true)] [] [] [(6,hR 8 0 59 (kc52 ap aq ar au av aw ax ay az a0 n o p q r s u v z A B C D E G H I J K L M O P a c.length i Q R T U V W Y Z aa ab ac ad ae af b j))] [qE d,qE (offs (some ⟨d,0,none⟩) + (0 * 61 + 59)),qE (some (kc52 ap aq ar au av aw ax ay az a0 n o p q r s u v z A B C D E G H I J K L M O P a c.length i Q R T U V W Y Z aa ab ac ad ae af b j))] ?_
 refine GS.cT ?_
 refine GS.seq ?_
 refine GS.eg [0,3,5,25] [] [1,2,3,4,5,6,7,8,9,14] [(15,.cells ((bf 1).x) 68 (kc62 bo bp bq k a7.length bc l a8.length bd m a9.length be br bs bt bi bj bk e a6))] [(0,hL 14 0 0),(1,hS 15)] [qE ((bf 0).x),qE ((bf 1).x),qE true] ?_
 have hy := Option.some.inj hm
 subst hy
 exact GS.rv [15] [qE ((bf 1).x)] Tryz.func69 () []

end Go.Proofs.YtjnbkhnebmlilaaGreat
