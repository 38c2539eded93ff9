/-
 CHAPTER 18o: the functions do what their models say (8).
-/
import Derived.Test.YtjnbkhnebmlilaaGreatE18o
import Derived.Test.YtjnbkhnebmlilaaGreatW18ob
import Derived.Test.YtjnbkhnebmlilaaGreatW18of
set_option linter.unusedVariables false
set_option linter.unusedSimpArgs false
set_option maxRecDepth 100000
set_option maxHeartbeats 8000000
namespace Go.Proofs.YtjnbkhnebmlilaaGreat
open Go Go.RowKit Sx

theorem w___primary_Machine__ask_3 (F a1 : Nat) (aw ax ay az a0 ao ap aq : Value) (b : Nat) (T U V W Y Z aa ab ac ad c d e f g h i j k l m n o p q r s u v z A B C D E G H I J K L M N O P Q : Value) (ae af : Int) (ag : Bool) (ah : Int) (ai : ByteArray) (aj ak : Int) (al : ByteArray) (am an a : Int) (R ar au av : Value) {y : Unit} (hm : m___primary_Machine__ask_3 F ae af ag ah ai aj ak al am an a = some y) : CallG Tryz.prog 49 #[pA a1 0,vI 1] (X := Unit) (fun (_ : Unit) => .agg ((kc66 a)).toArray) [] [.rd (some ⟨b,0,none⟩) 61 [(kc64 T U V W Y Z aa ab ac ad c d e f g h i j k l m n o p q r s u v z A B C D E G H I J K L M N O P Q ae af ag ah ai aj ak al am an a R)],.rd (some ⟨a1,0,none⟩) 17 [(kc45 aw ax ay az a0 ao ap aq b ar au av)]] (fun (_ : Unit) => []) := by
 rw [m___primary_Machine__ask_3] at hm
 refine GS.st Tryz.func49 Tryz.ntmps49 (fun w => ?_)
 refine GS.seq ?_
 refine GS.dg [] (fun a2 => [(4,pA ((a2 0).x) 0)]) [] (fun a2 => [(3,.cells ((a2 0).x) 65 (kc19))]) [(0,hN 3)] (fun a2 => []) (fun a2 => ?_)
 refine GS.seq ?_
 refine GS.eg [] [(5,pA b 0)] [] [] [(3,hR 2 0 13 (kc45 aw ax ay az a0 ao ap aq b ar au av))] [qE a1,qE (offs (some ⟨a1,0,none⟩) + (0 * 17 + 13)),qE (some (kc45 aw ax ay az a0 ao ap aq b ar au av))] ?_
 refine GS.seq ?_
 refine GS.seq ?_
 refine GS.eg [] [(13,.bool false)] [] [] [(3,hR 1 0 46 (kc64 T U V W Y Z aa ab ac ad c d e f g h i j k l m n o p q r s u v z A B C D E G H I J K L M N O P Q ae af ag ah ai aj ak al am an a R))] [qE b,qE (offs (some ⟨b,0,none⟩) + (0 * 61 + 46)),qE (some (kc64 T U V W Y Z aa ab ac ad c d e f g h i j k l m n o p q r s u v z A B C D E G H I J K L M N O P Q ae af ag ah ai aj ak al am an a R))] ?_
 refine GS.cF ?_
 refine GS.skip ?_
 refine GS.seq ?_
 refine bnd_elim hm (fun y5 e6 hm => ?_)
 refine GS.eg [0,1,5,13] [] [1,2] [(3,.cells ((a2 0).x) 65 (kc66 a))] [(5,hR 1 0 58 (kc64 T U V W Y Z aa ab ac ad c d e f g h i j k l m n o p q r s u v z A B C D E G H I J K L M N O P Q ae af ag ah ai aj ak al am an a R)),(7,hC [2] (.agg ((kc66 a)).toArray)),(8,hS 3)] [qE b,qE (offs (some ⟨b,0,none⟩) + (0 * 61 + 58)),qE (some (kc64 T U V W Y Z aa ab ac ad c d e f g h i j k l m n o p q r s u v z A B C D E G H I J K L M N O P Q ae af ag ah ai aj ak al am an a R)),⟨(w___primary_Machine__to_3 F a1 aw ax ay az a0 ao ap aq (pA b 0) ar au av 34 0 0 0 0 0 0 0 0 0 a 0 0 0 0 0 0 0 0 0 0 0 0 false 0 (ByteArray.mk #[]) 0 0 (ByteArray.mk #[]) 0 0 0 (ByteArray.mk #[]) 0 0 0 e6).ok (es := [some (.rd (some ⟨a1,0,none⟩) 17 [(kc45 aw ax ay az a0 ao ap aq b ar au av)])]) ⟨(.inl ⟨_,mm0,Cov.refl _⟩),trivial⟩⟩,qE ((a2 0).x),qE true] ?_
 have hy := Option.some.inj hm
 subst hy
 exact GS.rv [3] [qE ((a2 0).x)] Tryz.func49 () []

theorem w___primary_Machine__done_3 (F a5 : Nat) (ad : Option Addr) (ax : Nat) (a2 a3 a4 : Int) (ae : Option Addr) (ay : Nat) (a0 : List S_api_Entry) (f : Option Addr) (ar : Nat) (ap : List S_api_Last) (g : Option Addr) (au : Nat) (aq : List S_api_Item) (h : Option Addr) (av d : Nat) (af ag ah ai aj ak al am an ao k l m n o p q r s u v z A : Int) (B : Bool) (C : Int) (D : ByteArray) (E G : Int) (H : ByteArray) (I J K : Int) (L : ByteArray) (a : Option Addr) (i : Nat) (c : List UInt8) (M N O P Q : Int) (R : Bool) (T : Int) (U : ByteArray) (V W : Int) (Y : ByteArray) (Z aa ab : Int) (b : Option Addr) (j : Nat) (a1 : Int) (e : Option Addr) (aw : Nat) (ac : Int) {y : Unit} (hm : m___primary_Machine__done_3 F a2 a3 a4 a0 ap aq af ag ah ai aj ak al am an ao k l m n o p q r s u v z A B C D E G H I J K L c M N O P Q R T U V W Y Z aa ab a1 ac = some y) : CallG Tryz.prog 69 #[pA a5 0,.agg ((kc30 e aw)).toArray] (X := Unit) (fun (_ : Unit) => .agg ((kc30 e aw)).toArray) [] [.rd ad 1 [[vI 1]],r31 ae a0,r94 f ap,r91 g aq,.rd h 46 [],r5 a c,.rd b 1 [[vI 1]],.rd (some ⟨d,0,none⟩) 61 [(kc67 af ag ah ai aj ak al am an ao k l m n o p q r s u v z A B C D E G H I J K L a c.length i M N O P Q R T U V W Y Z aa ab b j)],.rd (some ⟨a5,0,none⟩) 17 [(kc39 ad ax a2 a3 a4 ae a0.length ay f ap.length ar g aq.length au h av d a1)],.rd e 46 [(kc66 ac)]] (fun (_ : Unit) => []) := by
 rw [m___primary_Machine__done_3] at hm
 refine GS.st Tryz.func69 Tryz.ntmps69 (fun w => ?_)
 refine GS.seq ?_
 refine GS.dg [1] (fun az => [(3,pA ((az 0).x) 0),(4,pA ((az 1).x) 0)]) [] (fun az => [(11,.cells ((az 0).x) 68 (kc30 e aw)),(12,.cells ((az 1).x) 68 (kc13))]) [(0,hN 11),(1,hN 12)] (fun az => []) (fun az => ?_)
 refine GS.seq ?_
 refine GS.eg [] [(5,pA d 0)] [] [] [(3,hR 9 0 13 (kc39 ad ax a2 a3 a4 ae a0.length ay f ap.length ar g aq.length au h av d a1))] [qE a5,qE (offs (some ⟨a5,0,none⟩) + (0 * 17 + 13)),qE (some (kc39 ad ax a2 a3 a4 ae a0.length ay f ap.length ar g aq.length au h av d a1))] ?_
 refine GS.seq ?_
 refine GS.seq ?_
 refine GS.eg [] [(25,.bool true)] [] [] [(6,hR 8 0 59 (kc67 af ag ah ai aj ak al am an ao k l m n o p q r s u v z A B C D E G H I J K L a c.length i M N O P Q R T U V W Y Z aa ab b j))] [qE d,qE (offs (some ⟨d,0,none⟩) + (0 * 61 + 59)),qE (some (kc67 af ag ah ai aj ak al am an ao k l m n o p q r s u v z A B C D E G H I J K L a c.length i M N O P Q R T U V W Y Z aa ab b j))] ?_
 refine GS.cT ?_
 refine GS.seq ?_
 refine GS.eg [0,3,5,25] [] [1,2,3,4,5,6,7,8,9,11] [(12,.cells ((az 1).x) 68 (kc30 e aw))] [(0,hL 11 0 0),(1,hS 12)] [qE ((az 0).x),qE ((az 1).x),qE true] ?_
 have hy := Option.some.inj hm
 subst hy
 exact GS.rv [12] [qE ((az 1).x)] Tryz.func69 () []

theorem w___primary_Machine__read (F z : Nat) (h : Option Addr) (s : Nat) (ae af ag : Int) (i : Option Addr) (v : Nat) (u : List S_api_Entry) (a : Option Addr) (n : Nat) (k : List S_api_Last) (b : Option Addr) (o : Nat) (l : List S_api_Item) (c : Option Addr) (p : Nat) (d ah ai aj ak al am an ao ap aq A B C D E G H I J K L M O : Int) (P : Bool) (Q : Int) (R : ByteArray) (T U : Int) (V : ByteArray) (W Y Z : Int) (aa : ByteArray) (e : Option Addr) (r : Nat) (m : List UInt8) (ab ac ad : Int) {y : Int} (hm : m___primary_Machine__read F ae af ag u k l d ah ai aj ak al am an ao ap aq A B C D E G H I J K L M O P Q R T U V W Y Z aa m ab ac ad = some y) : CallG Tryz.prog 72 #[pA z 0,.agg ((kc12 ah ai aj ak al am an ao ap aq A B C D E G H I J K L M O P Q R T U V W Y Z aa e m.length r ab ac ad)).toArray,.agg ((kc13)).toArray] (X := Option Addr × Nat × Nat × Option Addr × Nat) (fun ⟨x0,x1,x2,x3,x4⟩ => .agg ((kc30 x0 x1)).toArray) [.cells z 80 (kc11 h s ae af ag i u.length v a k.length n b l.length o c p d)] [.rd h 1 [[vI 1]],r31 i u,r94 a k,r91 b l,.rd c 46 [],r5 e m] (fun ⟨x0,x1,x2,x3,x4⟩ => [.osl x0 x1 65 46 [(kc66 y)],.osl x3 x4 3 1 [[vI 1]],.cells x2 104 (kc63 ah ai aj ak al am an ao ap aq A B C D E G H I J K L M O P Q R T U V W Y Z aa e m.length r ab ac ad y x3 x4),.cells z 80 (kc39 h s ae af ag i u.length v a k.length n b l.length o c p x2 y)]) := by
 rw [m___primary_Machine__read] at hm
 refine GS.st Tryz.func72 Tryz.ntmps72 (fun w => ?_)
 refine GS.seq ?_
 refine GS.dg [1,2] (fun q => [(4,pA ((q 0).x) 0),(5,pA ((q 1).x) 0),(6,pA ((q 2).x) 0)]) [] (fun q => [(8,.cells ((q 0).x) 65 (kc12 ah ai aj ak al am an ao ap aq A B C D E G H I J K L M O P Q R T U V W Y Z aa e m.length r ab ac ad)),(9,.cells ((q 1).x) 68 (kc13)),(10,.cells ((q 2).x) 68 (kc13))]) [(0,hN 8),(1,hN 9),(2,hN 10)] (fun q => []) (fun q => ?_)
 refine GS.seq ?_
 refine grd_elim hm (fun g3 hm => ?_)
 refine GS.eg [] [] [] [(1,.cells z 80 (kc11 h s ae af ag i u.length v a k.length n b l.length o c p (d + 1)))] [(3,hL 1 0 0),(4,hP (vI (d + 1))),(7,hS 1)] [qE z,⟨(I64.w g3 : oW (d + 1))⟩,qE z,qE true] ?_
 refine GS.seq ?_
 refine bnd_elim hm (fun y5 e6 hm => ?_)
 refine GS.xg [4] (fun g => []) [8] (fun g => [(1,.cells z 80 (kc39 h s ae af ag i u.length v a k.length n b l.length o c p ((g 12).x) (d + 1))),(11,.osl (((g 10).xs.getD 0 (none,0)).1) (((g 10).xs.getD 1 (none,0)).2) 3 1 [[vI 1]]),(12,.cells ((g 12).x) 104 (kc63 ah ai aj ak al am an ao ap aq A B C D E G H I J K L M O P Q R T U V W Y Z aa e m.length r ab ac ad (d + 1) (((g 10).xs.getD 0 (none,0)).1) (((g 10).xs.getD 1 (none,0)).2)))]) [(1,hL 8 0 0),(5,hL 1 0 0),(9,hL 1 0 0),(10,hK (.calln [2] (fun f => .slice (f.xs.getD 0 (none,0)).1 1 (f.xs.getD 1 (none,0)).2) (fun f => .osl (f.xs.getD 0 (none,0)).1 (f.xs.getD 1 (none,0)).2 3 1 [[vI 1]])) 11),(12,hN 12),(15,hS 1)] (fun g => [qE ((q 0).x),qE z,qE z,⟨((by have h1 := w_slices_Clone___int_int_ F h s e6; exact CallG.toN1 h1 ⟨(.inl ⟨_,mm0,Cov.refl _⟩),trivial⟩ (fun x => ⟨0,none,0,[(x.1,0),(none,x.2)],fun _ _ => (none,0)⟩) (fun _ => rfl) (fun _ => rfl) (fun _ => rfl)) : CallN Tryz.prog 50 #[.slice h 1 s] (fun f => .slice (f.xs.getD 0 (none,0)).1 1 (f.xs.getD 1 (none,0)).2) (fun f => .osl (f.xs.getD 0 (none,0)).1 (f.xs.getD 1 (none,0)).2 3 1 [[vI 1]]) [some (.rd h 1 [[vI 1]])])⟩,qE z,qE true]) (fun g => ?_)
 refine GS.seq ?_
 refine GS.seq ?_
 refine GS.eg [] [(37,.slice (((g 10).xs.getD 0 (none,0)).1) 1 (((g 10).xs.getD 1 (none,0)).2)),(38,vI 1),(39,vI 0)] [] [] [(3,hL 1 0 0),(6,hL 12 0 0)] [qE z,qE ((g 12).x)] ?_
 refine GS.block ?_
 refine GS.loop ?_
 refine GS.seq ?_
 refine GS.ez [] [(40,.bool true)] [] ?_
 refine GS.seq ?_
 refine GS.cT ?_
 refine GS.skip ?_
 refine GS.seq ?_
 refine GS.block ?_
 refine GS.seq ?_
 refine GS.eg [40] [(8,vI 1)] [] [] [(0,hA (.idx 11 0)),(1,hR 11 0 0 [vI 1])] [qE (((g 10).xs.getD 0 (none,0)).1),qE (([[vI 1]] : List (List Value)).length),qE (0 : Int),⟨((Nat.le_of_ble_eq_true rfl) : 0 < 1)⟩,qE (blk (((g 10).xs.getD 0 (none,0)).1)),qE (offs (((g 10).xs.getD 0 (none,0)).1) + 0 * 1),qE (some ([vI 1] : List Value))] ?_
 refine bnd_elim hm (fun av ar hm => ?_)
 refine GS.xg [8] (fun j => []) [] (fun j => [(9,.cells ((q 1).x) 68 (kc30 ((j 6).ob) ((j 6).cap))),(14,.osl ((j 6).ob) ((j 6).cap) 65 46 ([(kc66 (d + 1))] : List (List Value)))]) [(1,hL 9 0 0),(4,hC [1,12] (.agg ((kc66 (d + 1))).toArray)),(5,hK (.new (.row 1 46)) 13),(6,{ act := .app (some 13),key := some 14,spf := some (fun f => .slice (f.ob) 1 (f.cap)) }),(8,hS 9)] (fun j => [qE ((q 1).x),⟨(w___primary_Machine__ask_3 F z (.slice h 1 s) (vI ae) (vI af) (vI ag) (.slice i u.length v) (.slice a k.length n) (.slice b l.length o) (.slice c 0 p) (g 12).x (vI ah) (vI ai) (vI aj) (vI ak) (vI al) (vI am) (vI an) (vI ao) (vI ap) (vI aq) (vI A) (vI B) (.slice none 0 0) (.slice none 0 0) (.slice none 0 0) (vI C) (vI D) (vI E) (vI G) (vI H) (vI I) (vI J) (vI K) (vI L) (.slice none 0 0) (.slice none 0 0) (.slice none 0 0) (vI M) (vI O) (.bool P) (vI Q) (.string R) (vI T) (vI U) (.string V) (vI W) (vI Y) (.slice none 0 0) (vI Z) (.string aa) (.slice e m.length r) (vI ab) (vI ac) (.slice none 0 0) (.slice none 0 0) (vI ad) 0 0 false 0 (ByteArray.mk #[]) 0 0 (ByteArray.mk #[]) 0 0 (d + 1) (.slice (((g 10).xs.getD 0 (none,0)).1) 1 (((g 10).xs.getD 1 (none,0)).2)) (.bool false) (vI (d + 1)) (.bool true) ar).ok (es := [some (.cells z 80 (kc39 h s ae af ag i u.length v a k.length n b l.length o c p ((g 12).x) (d + 1))),some (.cells ((g 12).x) 104 (kc63 ah ai aj ak al am an ao ap aq A B C D E G H I J K L M O P Q R T U V W Y Z aa e m.length r ab ac ad (d + 1) (((g 10).xs.getD 0 (none,0)).1) (((g 10).xs.getD 1 (none,0)).2)))]) ⟨(.inl ⟨_,mm1,Cov.cells_rd⟩),(.inl ⟨_,mm0,Cov.cells_rd⟩),trivial⟩⟩,qE (some (Addr.mk (j 5).x 0 none)),qE (([(kc66 (d + 1))] : List (List Value)).length),qE 0,qE 0,⟨((show 1 * (552 + 1) ≤ 70368744177664 by decide) : ([(kc66 (d + 1))] : List (List Value)).length * (552 + 1) ≤ 70368744177664)⟩,qE ((.slice ((j 6).ob) (0 + ([(kc66 (d + 1))] : List (List Value)).length) ((j 6).cap)) : Value),qE ((q 1).x),qE true]) (fun j => ?_)
 refine GS.ce 14 (fun rr : List (List Value) => .osl ((j 6).ob) ((j 6).cap) 65 46 rr) (show ([(kc66 (d + 1))] : List (List Value)) = ([(kc66 (d + 1))] : List (List Value)) from rfl) ?_
 refine GS.inBlock ?_
 refine GS.ez [] [(39,vI 1)] [] ?_
 refine GS.inLoop ?_
 refine GS.seq ?_
 refine GS.ez [] [(40,.bool false)] [] ?_
 refine GS.seq ?_
 refine GS.cF ?_
 refine GS.exit rfl ?_
 refine GS.seq ?_
 refine bnd_elim hm (fun aw au hm => ?_)
 refine GS.eg [0,5,37,38,39,40] [] [9] [(10,.cells ((q 2).x) 68 (kc30 ((j 6).ob) ((j 6).cap)))] [(1,hL 9 0 0),(2,hC [1,2,3,4,5,6,7,11,12,14] (.agg ((kc30 ((j 6).ob) ((j 6).cap))).toArray)),(3,hS 10)] [qE ((q 1).x),⟨(w___primary_Machine__done_3 F z h s ae af ag i v u a n k b o l c p (g 12).x ah ai aj ak al am an ao ap aq A B C D E G H I J K L M O P Q R T U V W Y Z aa e r m ab ac ad 0 0 false 0 (ByteArray.mk #[]) 0 0 (ByteArray.mk #[]) 0 0 (d + 1) (((g 10).xs.getD 0 (none,0)).1) (((g 10).xs.getD 1 (none,0)).2) (d + 1) ((j 6).ob) ((j 6).cap) (d + 1) au).ok (es := [some (.cells z 80 (kc39 h s ae af ag i u.length v a k.length n b l.length o c p ((g 12).x) (d + 1))),some (.rd h 1 [[vI 1]]),some (r31 i u),some (r94 a k),some (r91 b l),some (.rd c 46 []),some (r5 e m),some (.osl (((g 10).xs.getD 0 (none,0)).1) (((g 10).xs.getD 1 (none,0)).2) 3 1 [[vI 1]]),some (.cells ((g 12).x) 104 (kc63 ah ai aj ak al am an ao ap aq A B C D E G H I J K L M O P Q R T U V W Y Z aa e m.length r ab ac ad (d + 1) (((g 10).xs.getD 0 (none,0)).1) (((g 10).xs.getD 1 (none,0)).2))),some (.osl ((j 6).ob) ((j 6).cap) 65 46 [(kc66 (d + 1))])]) ⟨(.inl ⟨_,mm1,Cov.refl _⟩),(.inl ⟨_,mm2,Cov.refl _⟩),(.inl ⟨_,mm3,Cov.refl _⟩),(.inl ⟨_,mm4,Cov.refl _⟩),(.inl ⟨_,mm5,Cov.refl _⟩),(.inl ⟨_,mm6,Cov.refl _⟩),(.inl ⟨_,mm7,Cov.osl_rd⟩),(.inl ⟨_,mm8,Cov.cells_rd⟩),(.inl ⟨_,mm0,Cov.cells_rd⟩),(.inl ⟨_,mm9,Cov.osl_rd⟩),trivial⟩⟩,qE ((q 2).x),qE true] ?_
 have hy := Option.some.inj hm
 subst hy
 exact GS.rv [10] [qE ((q 2).x)] Tryz.func72 ⟨(j 6).ob,(j 6).cap,(g 12).x,((g 10).xs.getD 0 (none,0)).1,((g 10).xs.getD 1 (none,0)).2⟩ [14,11,12,1]

end Go.Proofs.YtjnbkhnebmlilaaGreat
