/-
 CHAPTER 18o: the functions do what their models say (18).
-/
import Derived.Test.YtjnbkhnebmlilaaGreatE18o
import Derived.Test.YtjnbkhnebmlilaaGreatW18oa
import Derived.Test.YtjnbkhnebmlilaaGreatW18ob
import Derived.Test.YtjnbkhnebmlilaaGreatW18oq
set_option linter.unusedVariables false
set_option linter.unusedSimpArgs false
set_option maxRecDepth 100000
set_option maxHeartbeats 8000000
namespace Go.Proofs.YtjnbkhnebmlilaaGreat
open Go Go.RowKit Sx

theorem w___primary_Machine__Got_2 (F ax : Nat) (l : Option Addr) (av : Nat) (a1 a2 a3 : Int) (m : Option Addr) (aw : Nat) (au : List S_api_Entry) (e : Option Addr) (ai : Nat) (U : List S_api_Last) (f : Option Addr) (aj : Nat) (V : List S_api_Item) (g : Option Addr) (ak o : Nat) (al h i am an ao ap aq ar j c p q r s u v z A B C D E : Int) (G : Bool) (H : Int) (I : ByteArray) (J K : Int) (L : ByteArray) (M N O : Int) (P : ByteArray) (a : Option Addr) (k : Nat) (d : List UInt8) (Q R T W Y : Int) (Z : Bool) (aa : Int) (ab : ByteArray) (ac ad : Int) (ae : ByteArray) (af ag ah : Int) (b : Option Addr) (n : Nat) (ay : Int) {y : Unit} (hm : m___primary_Machine__Got_2 F a1 a2 a3 au U V al h i am an ao ap aq ar j c p q r s u v z A B C D E G H I J K L M N O P d Q R T W Y Z aa ab ac ad ae af ag ah ay = some y) : CallG Tryz.prog 19 #[pA ax 0,.agg ((kc42)).toArray,vI 0] (X := Option Addr) (fun (x0 : Option Addr) => .agg ((kc117 x0)).toArray) [.cells ax 80 (kc39 l av a1 a2 a3 m au.length aw e U.length ai f V.length aj g ak o ay)] [.rd l 1 [[vI 1]],r31 m au,r94 e U,r91 f V,.rd g 46 [],r5 a d,.rd b 1 [],.rd (some ⟨o,0,none⟩) 61 [(kc102 al h i am an ao ap aq ar j c p q r s u v z A B C D E G H I J K L M N O P a d.length k Q R T W Y Z aa ab ac ad ae af ag ah b n)]] (fun (x0 : Option Addr) => [.osl x0 1 65 46 [(kc116 h i j c)],.cells ax 80 (kc11 l av a1 a2 a3 m au.length aw e U.length ai f V.length aj g ak ay)]) := by
 rw [m___primary_Machine__Got_2] at hm
 refine GS.st Tryz.func19 Tryz.ntmps19 (fun w => ?_)
 refine GS.seq ?_
 refine GS.dg [1] (fun az => [(4,pA ((az 0).x) 0),(6,pA ((az 1).x) 0)]) [] (fun az => [(10,.cells ((az 0).x) 62 (kc42)),(11,.cells ((az 1).x) 68 (kc13))]) [(0,hN 10),(1,hN 11)] (fun az => []) (fun az => ?_)
 refine GS.seq ?_
 refine GS.seq ?_
 refine GS.eg [] [(34,.bool false)] [] [] [(6,hL 1 0 0),(13,hL 1 0 0),(20,hL 1 0 0),(23,hR 9 0 60 (kc102 al h i am an ao ap aq ar j c p q r s u v z A B C D E G H I J K L M N O P a d.length k Q R T W Y Z aa ab ac ad ae af ag ah b n))] [qE ax,qE ax,qE ax,qE o,qE (offs (some ⟨o,0,none⟩) + (0 * 61 + 60)),qE (some (kc102 al h i am an ao ap aq ar j c p q r s u v z A B C D E G H I J K L M N O P a d.length k Q R T W Y Z aa ab ac ad ae af ag ah b n))] ?_
 refine GS.cF ?_
 refine GS.skip ?_
 refine GS.seq ?_
 refine GS.dg [34] (fun a4 => [(7,pA ((a4 2).x) 0)]) [] (fun a4 => [(12,.cells ((a4 2).x) 65 (kc19))]) [(2,hN 12),(3,hS 12)] (fun a4 => [qE ((a4 2).x),qE true]) (fun a4 => ?_)
 refine GS.seq ?_
 refine GS.seq ?_
 refine GS.ez [2] [(39,.bool true)] [] ?_
 refine GS.cT ?_
 refine bnd_elim hm (fun y6 e7 hm => ?_)
 refine GS.eg [4,39] [] [10] [] [(0,hL 10 0 0),(1,hC [] (.agg ((kc42)).toArray)),(3,hS 12)] [qE ((az 0).x),⟨(w_primary_copied_3 F  e7).ok (es := []) trivial⟩,qE ((a4 2).x),qE true] ?_
 refine GS.seq ?_
 refine bnd_elim hm (fun y9 a5 hm => ?_)
 refine GS.xg [7] (fun a0 => [(8,pA ((a0 12).x) 0)]) [12] (fun a0 => [(13,.osl (some (Addr.mk (a0 10).x 0 none)) 1 65 46 [(kc116 h i j c)]),(14,.cells ((a0 12).x) 68 (kc117 (some (Addr.mk (a0 10).x 0 none))))]) [(4,hL 1 0 0),(7,hR 9 0 0 (kc102 al h i am an ao ap aq ar j c p q r s u v z A B C D E G H I J K L M N O P a d.length k Q R T W Y Z aa ab ac ad ae af ag ah b n)),(8,hL 12 0 0),(9,hC [1,7] (.agg ((kc116 h i j c)).toArray)),(10,hK (.new (.row 1 46)) 13),(12,hN 14),(13,hS 14)] (fun a0 => [qE ax,qE o,qE (offs (some ⟨o,0,none⟩) + (0 * 61 + 0)),qE (some (kc102 al h i am an ao ap aq ar j c p q r s u v z A B C D E G H I J K L M N O P a d.length k Q R T W Y Z aa ab ac ad ae af ag ah b n)),qE ((a4 2).x),⟨(w___primary_Machine__answer F ax (.slice l 1 av) (vI a1) (vI a2) (vI a3) (.slice m au.length aw) (.slice e U.length ai) (.slice f V.length aj) (.slice g 0 ak) (pA o 0) (.bool false) (vI ay) (.bool true) al h i am an ao ap aq ar j c p q r s u v z A B C D E G H I J K L M N O P a k d Q R T 0 0 0 0 0 0 0 0 0 0 0 0 0 0 0 0 0 0 0 0 0 0 0 false 0 (ByteArray.mk #[]) 0 0 (ByteArray.mk #[]) 0 0 0 (ByteArray.mk #[]) 0 0 0 a5).ok (es := [some (.cells ax 80 (kc39 l av a1 a2 a3 m au.length aw e U.length ai f V.length aj g ak o ay)),some (r5 a d)]) ⟨(.inl ⟨_,mm0,Cov.cells_rd⟩),(.inl ⟨_,mm1,Cov.refl _⟩),trivial⟩⟩,qE ((a0 12).x),qE true]) (fun a0 => ?_)
 refine GS.seq ?_
 refine GS.eg [] [] [7,8,9] [(1,.cells ax 80 (kc11 l av a1 a2 a3 m au.length aw e U.length ai f V.length aj g ak ay))] [(3,hS 1)] [qE ax,qE true] ?_
 refine GS.seq ?_
 refine bnd_elim hm (fun a7 a6 hm => ?_)
 refine GS.eg [0,8] [] [14] [(11,.cells ((az 1).x) 68 (kc117 (some (Addr.mk (a0 10).x 0 none))))] [(1,hL 14 0 0),(2,hC [1,2,3,4,5,6,13] (.agg ((kc117 (some (Addr.mk (a0 10).x 0 none)))).toArray)),(3,hS 11)] [qE ((a0 12).x),⟨(w___primary_Machine__begin_6 F ax l av a1 a2 a3 m aw au e ai U f aj V g ak ay (some (Addr.mk (a0 10).x 0 none)) 1 h i j c a6).ok (es := [some (.cells ax 80 (kc11 l av a1 a2 a3 m au.length aw e U.length ai f V.length aj g ak ay)),some (.rd l 1 [[vI 1]]),some (r31 m au),some (r94 e U),some (r91 f V),some (.rd g 46 []),some (.osl (some (Addr.mk (a0 10).x 0 none)) 1 65 46 [(kc116 h i j c)])]) ⟨(.inl ⟨_,mm1,Cov.refl _⟩),(.inl ⟨_,mm2,Cov.refl _⟩),(.inl ⟨_,mm3,Cov.refl _⟩),(.inl ⟨_,mm4,Cov.refl _⟩),(.inl ⟨_,mm5,Cov.refl _⟩),(.inl ⟨_,mm0,Cov.cells_rd⟩),(.inl ⟨_,mm6,Cov.osl_rd⟩),trivial⟩⟩,qE ((az 1).x),qE true] ?_
 have hy := Option.some.inj hm
 subst hy
 exact GS.rv [11] [qE ((az 1).x)] Tryz.func19 (some (Addr.mk (a0 10).x 0 none)) [13,1]

theorem w___primary_Machine__Waiting (F r : Nat) (d : Option Addr) (k : Nat) (o p q : Int) (e : Option Addr) (l : Nat) (m : List S_api_Entry) (a : Option Addr) (h : Nat) (f : List S_api_Last) (b : Option Addr) (i : Nat) (g : List S_api_Item) (c : Option Addr) (j : Nat) (n : Int) {y : Unit} (hm : m___primary_Machine__Waiting F o p q m f g n = some y) : CallG Tryz.prog 21 #[pA r 0] (X := Unit) (fun (_ : Unit) => vI 0) [] [.rd d 1 [[vI 1]],r31 e m,r94 a f,r91 b g,.rd c 46 [],.rd (some ⟨r,0,none⟩) 17 [(kc11 d k o p q e m.length l a f.length h b g.length i c j n)]] (fun (_ : Unit) => []) := by
 rw [m___primary_Machine__Waiting] at hm
 refine GS.st Tryz.func21 Tryz.ntmps21 (fun w => ?_)
 refine GS.seq ?_
 refine GS.ez [] [] [] ?_
 refine GS.seq ?_
 refine GS.seq ?_
 refine GS.ez [] [(4,.bool false)] [] ?_
 refine GS.cF ?_
 refine GS.skip ?_
 refine GS.seq ?_
 refine GS.eg [0,4] [(2,vI 0)] [1,2,3,4,5,6] [] [(3,hR 6 0 12 (kc11 d k o p q e m.length l a f.length h b g.length i c j n))] [qE r,qE (offs (some ⟨r,0,none⟩) + (0 * 17 + 12)),qE (some (kc11 d k o p q e m.length l a f.length h b g.length i c j n))] ?_
 have hy := Option.some.inj hm
 subst hy
 exact GS.rv [0] [] Tryz.func21 () []

theorem w___primary_Machine__State (F z : Nat) (j : Option Addr) (p : Nat) (s u v : Int) (c : Option Addr) (n : Nat) (m : List S_api_Entry) (a : Option Addr) (k : Nat) (d : List S_api_Last) (b : Option Addr) (l : Nat) (e : List S_api_Item) (f : Option Addr) (o : Nat) (q : Int) {y : R___primary_Machine__State} (hm : m___primary_Machine__State F s u v m d e q = some y) : CallG Tryz.prog 22 #[pA z 0] (X := Option Addr × Nat × Option Addr × Nat × Option Addr × Nat) (fun ⟨x0,x1,x2,x3,x4,x5⟩ => .agg ((kc15 y.a0 y.a1 y.a2 x0 y.a3.length x1 x2 y.a4.length x3 x4 y.a5.length x5)).toArray) [] [.rd j 1 [[vI 1]],r31 c m,r94 a d,r91 b e,.rd f 46 [],.rd (some ⟨z,0,none⟩) 17 [(kc11 j p s u v c m.length n a d.length k b e.length l f o q)]] (fun ⟨x0,x1,x2,x3,x4,x5⟩ => [o31 x0 x1 y.a3,o94 x2 x3 y.a4,o91 x4 x5 y.a5]) := by
 rw [m___primary_Machine__State] at hm
 refine GS.st Tryz.func22 Tryz.ntmps22 (fun w => ?_)
 refine GS.seq ?_
 refine GS.dg [] (fun r => [(2,pA ((r 0).x) 0)]) [] (fun r => [(7,.cells ((r 0).x) 28 (kc1))]) [(0,hN 7)] (fun r => []) (fun r => ?_)
 refine GS.seq ?_
 refine GS.seq ?_
 refine GS.ez [] [(4,.bool false)] [] ?_
 refine GS.cF ?_
 refine GS.skip ?_
 refine GS.seq ?_
 refine bnd_elim hm (fun y4 e5 hm => ?_)
 refine GS.open_ ?_
 refine GR.eu 4 [0,4] [(9,.agg ((kc15 s u v c m.length n a d.length k b e.length l)).toArray)] [1,5,6] [] [(3,hR 6 0 6 (kc11 j p s u v c m.length n a d.length k b e.length l f o q))] [qE z,qE (offs (some ⟨z,0,none⟩) + (0 * 17 + 6)),qE (some (kc11 j p s u v c m.length n a d.length k b e.length l f o q))] ?_
 refine GR.cg (w_pglog_Copy_2 F s (S_api_Version.mk u v) c n m a k d b l e e5) [] [8,9,10] [9] [] ⟨rR 2,rR 3,rR 4,trivial⟩ ?_
 rintro ⟨x6,x7,x8,x9,A,B⟩
 refine GR.eu 1 [10] [] [2,3,4] [(7,.cells ((r 0).x) 28 (kc15 y4.1 y4.2.1.Epoch y4.2.1.N x6 y4.2.2.1.length x7 x8 y4.2.2.2.1.length x9 A y4.2.2.2.2.length B))] [(5,hS 7)] [qE ((r 0).x),qE true] ?_
 refine GR.dm ?_
 have hy := Option.some.inj hm
 subst hy
 exact GS.rv [7] [qE ((r 0).x)] Tryz.func22 ⟨x6,x7,x8,x9,A,B⟩ [8,9,10]

theorem w_tholeref13_Same (F : Nat) (C : Int) (n : S_api_Version) (l : Option Addr) (A : Nat) (k : List S_api_Entry) (e : Option Addr) (s : Nat) (b : List S_api_Last) (f : Option Addr) (u : Nat) (a : List S_api_Item) (D : Int) (o : S_api_Version) (m : Option Addr) (B : Nat) (j : List S_api_Entry) (g : Option Addr) (v : Nat) (c : List S_api_Last) (h : Option Addr) (z : Nat) (d : List S_api_Item) {y : Bool} (hm : m_tholeref13_Same F C n k b a D o j c d = some y) : CallG Tryz.prog 10 #[.agg ((kc15 C n.Epoch n.N l k.length A e b.length s f a.length u)).toArray,.agg ((kc15 D o.Epoch o.N m j.length B g c.length v h d.length z)).toArray] (X := Unit) (fun (_ : Unit) => .bool y) [] [r31 l k,r94 e b,r91 f a,r31 m j,r94 g c,r91 h d] (fun (_ : Unit) => []) := by
 rw [m_tholeref13_Same] at hm
 refine GS.st Tryz.func10 Tryz.ntmps10 (fun w => ?_)
 refine GS.seq ?_
 refine GS.dg [0,1] (fun i => [(2,pA ((i 0).x) 0),(3,pA ((i 1).x) 0)]) [] (fun i => [(7,.cells ((i 0).x) 28 (kc15 C n.Epoch n.N l k.length A e b.length s f a.length u)),(8,.cells ((i 1).x) 28 (kc15 D o.Epoch o.N m j.length B g c.length v h d.length z))]) [(0,hN 7),(1,hN 8)] (fun i => []) (fun i => ?_)
 refine GS.seq ?_
 refine GS.seq ?_
 refine jn_elim hm (fun J7 ai hm => ?_)
 refine GS.cu (ι := Bool) (fun (O : Bool) => J7 O = some y) [] (fun (O : Bool) => [(46,.bool O)]) [] (fun (O : Bool) => []) ?_ ?_
 rotate_left
 ·intro H8
  refine br_elim hm (fun h3 hm => ?_) (fun h3 hm => ?_)
  ·skip
   refine GS.eg [] [(46,.bool true)] [] [] [(1,hL 7 0 0),(3,hL 8 0 0),(5,hP (.bool true))] [qE ((i 0).x),qE ((i 1).x),⟨bool_eq h3⟩] ?_
   exact GS.rs (H8 true hm)
  ·skip
   refine br_elim hm (fun h4 hm => ?_) (fun h4 hm => ?_)
   ·skip
    refine GS.eg [] [(46,.bool true)] [] [] [(1,hL 7 0 0),(3,hL 8 0 0),(5,hP (.bool false)),(7,hL 7 0 0),(9,hL 8 0 0),(10,hA (.eq)),(12,hP (.bool true))] [qE ((i 0).x),qE ((i 1).x),⟨bool_eq h3⟩,qE ((i 0).x),qE ((i 1).x),⟨bool_eq h4⟩] ?_
    exact GS.rs (H8 true hm)
   ·skip
    refine br_elim hm (fun h5 hm => ?_) (fun h5 hm => ?_)
    ·skip
     refine GS.eg [] [(46,.bool true)] [] [] [(1,hL 7 0 0),(3,hL 8 0 0),(5,hP (.bool false)),(7,hL 7 0 0),(9,hL 8 0 0),(10,hA (.eq)),(12,hP (.bool false)),(14,hL 7 0 0),(17,hL 8 0 0),(21,hP (.bool true))] [qE ((i 0).x),qE ((i 1).x),⟨bool_eq h3⟩,qE ((i 0).x),qE ((i 1).x),⟨bool_eq h4⟩,qE ((i 0).x),qE ((i 1).x),⟨bool_eq h5⟩] ?_
     exact GS.rs (H8 true hm)
    ·skip
     refine br_elim hm (fun h6 hm => ?_) (fun h6 hm => ?_)
     ·skip
      refine GS.eg [] [(46,.bool true)] [] [] [(1,hL 7 0 0),(3,hL 8 0 0),(5,hP (.bool false)),(7,hL 7 0 0),(9,hL 8 0 0),(10,hA (.eq)),(12,hP (.bool false)),(14,hL 7 0 0),(17,hL 8 0 0),(21,hP (.bool false)),(23,hL 7 0 0),(26,hL 8 0 0),(30,hP (.bool true))] [qE ((i 0).x),qE ((i 1).x),⟨bool_eq h3⟩,qE ((i 0).x),qE ((i 1).x),⟨bool_eq h4⟩,qE ((i 0).x),qE ((i 1).x),⟨bool_eq h5⟩,qE ((i 0).x),qE ((i 1).x),⟨bool_eq h6⟩] ?_
      exact GS.rs (H8 true hm)
     ·skip
      refine GS.eg [] [(46,.bool ((a.length : Int) != (d.length : Int)))] [] [] [(1,hL 7 0 0),(3,hL 8 0 0),(5,hP (.bool false)),(7,hL 7 0 0),(9,hL 8 0 0),(10,hA (.eq)),(12,hP (.bool false)),(14,hL 7 0 0),(17,hL 8 0 0),(21,hP (.bool false)),(23,hL 7 0 0),(26,hL 8 0 0),(30,hP (.bool false)),(32,hL 7 0 0),(35,hL 8 0 0)] [qE ((i 0).x),qE ((i 1).x),⟨bool_eq h3⟩,qE ((i 0).x),qE ((i 1).x),⟨bool_eq h4⟩,qE ((i 0).x),qE ((i 1).x),⟨bool_eq h5⟩,qE ((i 0).x),qE ((i 1).x),⟨bool_eq h6⟩,qE ((i 0).x),qE ((i 1).x)] ?_
      exact GS.rs (H8 ((a.length : Int) != (d.length : Int)) hm)
 ·rintro O hm
  replace hm := (ai _).symm.trans hm
  try dsimp only at hm
  refine GS.cd O (fun W => ?_) (fun W => ?_)
  ·replace hm := br_t W hm
   refine GS.seq ?_
   refine GS.eg [2,3,46] [(4,.bool false)] [1,2,3,4,5,6,7,8] [] [] [] ?_
   have hy := Option.some.inj hm
   subst hy
   exact GS.rv [0] [] Tryz.func10 () []
  ·replace hm := br_f W hm
   refine GS.skip ?_
   refine GS.seq ?_
   refine GS.seq ?_
   refine GS.eg [46] [(49,vI (k.length : Int)),(50,vI 0)] [] [] [(1,hL 7 0 0)] [qE ((i 0).x)] ?_
   refine GS.block ?_
   refine GS.loop ?_
   refine grd_elim hm (fun aj hm => ?_)
   refine loopL_elim hm (fun st48 fn49 hst50 hfn51 hm => ?_)
   refine GS.li (ι := List S_api_Entry × Nat) (fun ⟨J,p⟩ => k.drop p = J ∧ loopL st48 fn49 J p () = some y) (fun ⟨J,p⟩ => J.length) [] (fun ⟨J,p⟩ => [(50,vI (p : Int))]) [] (fun ⟨J,p⟩ => []) ?_ ⟨k,0⟩ ⟨List.drop_zero ..,hm⟩
   rintro ⟨J,p⟩ ⟨R,hm⟩ ab
   cases J with
   | nil =>
    replace hm := (hfn51 _ _).symm.trans hm
    try dsimp only at hm
    refine GS.seq ?_
    refine GS.ez [] [(51,.bool (decide ((p : Int) < (k.length : Int))))] [] ?_
    refine GS.seq ?_
    refine GS.cd (decide ((p : Int) < (k.length : Int))) (fun ak => absb ak (drop_dec0 R)) (fun _ => ?_)
    refine GS.exit rfl ?_
    refine GS.seq ?_
    refine GS.seq ?_
    refine GS.eg [49,50,51] [(67,vI (b.length : Int)),(68,vI 0)] [] [] [(1,hL 7 0 0)] [qE ((i 0).x)] ?_
    refine GS.block ?_
    refine GS.loop ?_
    refine grd_elim hm (fun al hm => ?_)
    refine loopL_elim hm (fun st88 fn89 hst90 hfn91 hm => ?_)
    refine GS.li (ι := List S_api_Last × Nat) (fun ⟨K,q⟩ => b.drop q = K ∧ loopL st88 fn89 K q () = some y) (fun ⟨K,q⟩ => K.length) [] (fun ⟨K,q⟩ => [(68,vI (q : Int))]) [] (fun ⟨K,q⟩ => []) ?_ ⟨b,0⟩ ⟨List.drop_zero ..,hm⟩
    rintro ⟨K,q⟩ ⟨T,hm⟩ ac
    cases K with
    | nil =>
     replace hm := (hfn91 _ _).symm.trans hm
     try dsimp only at hm
     refine GS.seq ?_
     refine GS.ez [] [(69,.bool (decide ((q : Int) < (b.length : Int))))] [] ?_
     refine GS.seq ?_
     refine GS.cd (decide ((q : Int) < (b.length : Int))) (fun am => absb am (drop_dec0 T)) (fun _ => ?_)
     refine GS.exit rfl ?_
     refine GS.seq ?_
     refine GS.seq ?_
     refine GS.eg [67,68,69] [(85,vI (a.length : Int)),(86,vI 0)] [] [] [(1,hL 7 0 0)] [qE ((i 0).x)] ?_
     refine GS.block ?_
     refine GS.loop ?_
     refine grd_elim hm (fun ad hm => ?_)
     refine loopL_elim hm (fun st128 fn129 hst130 hfn131 hm => ?_)
     refine GS.li (ι := List S_api_Item × Nat) (fun ⟨G,r⟩ => a.drop r = G ∧ loopL st128 fn129 G r () = some y) (fun ⟨G,r⟩ => G.length) [] (fun ⟨G,r⟩ => [(86,vI (r : Int))]) [] (fun ⟨G,r⟩ => []) ?_ ⟨a,0⟩ ⟨List.drop_zero ..,hm⟩
     rintro ⟨G,r⟩ ⟨P,hm⟩ Y
     cases G with
     | nil =>
      replace hm := (hfn131 _ _).symm.trans hm
      try dsimp only at hm
      refine GS.seq ?_
      refine GS.ez [] [(87,.bool (decide ((r : Int) < (a.length : Int))))] [] ?_
      refine GS.seq ?_
      refine GS.cd (decide ((r : Int) < (a.length : Int))) (fun ae => absb ae (drop_dec0 P)) (fun _ => ?_)
      refine GS.exit rfl ?_
      refine GS.seq ?_
      refine GS.eg [2,3,85,86,87] [(4,.bool true)] [1,2,3,4,5,6,7,8] [] [] [] ?_
      have hy := Option.some.inj hm
      subst hy
      exact GS.rv [0] [] Tryz.func10 () []
     | cons L G =>
      replace hm := (hst130 _ _ _ _).symm.trans hm
      try dsimp only at hm
      refine GS.seq ?_
      refine GS.ez [] [(87,.bool (decide ((r : Int) < (a.length : Int))))] [] ?_
      refine GS.seq ?_
      refine GS.cd (decide ((r : Int) < (a.length : Int))) (fun _ => ?_) (fun af => absb (drop_dec P) af)
      refine GS.skip ?_
      refine GS.seq ?_
      refine GS.block ?_
      refine GS.seq ?_
      refine GS.ez [87] [(7,vI (r : Int))] [] ?_
      refine GS.seq ?_
      refine grd_elim hm (fun V hm => ?_)
      refine GS.yg [7] [(99,.bool (!(S_api_Item.beq L (d.getD r dS_api_Item))))] [] [] [(1,hL 7 0 0),(3,hA (.idx 3 r)),(4,hR 3 r 0 [.string L.Name,vI L.Version.Epoch,vI L.Version.N,.int .u32 L.Crc]),(6,hL 8 0 0),(8,hA (.idx 6 r)),(9,hR 6 r 0 [.string ((d.getD r dS_api_Item).Name),vI (((d.getD r dS_api_Item).Version).Epoch),vI (((d.getD r dS_api_Item).Version).N),.int .u32 ((d.getD r dS_api_Item).Crc)]),(10,hA (.eq))] [qE ((i 0).x),qE f,⟨(mlen S_api_Item.row a : a.length = (List.map S_api_Item.row a).length)⟩,qE (r : Int),⟨((drop_lt P) : r < a.length)⟩,qE (blk f),qE (offs f + r * 4),⟨(map_drop S_api_Item.row P : (List.map S_api_Item.row a)[r]? = some [.string L.Name,vI L.Version.Epoch,vI L.Version.N,.int .u32 L.Crc])⟩,qE ((i 1).x),qE h,⟨(mlen S_api_Item.row d : d.length = (List.map S_api_Item.row d).length)⟩,qE (r : Int),⟨V⟩,qE (blk h),qE (offs h + r * 4),⟨(map_at S_api_Item.row dS_api_Item V : (List.map S_api_Item.row d)[r]? = some [.string ((d.getD r dS_api_Item).Name),vI (((d.getD r dS_api_Item).Version).Epoch),vI (((d.getD r dS_api_Item).Version).N),.int .u32 ((d.getD r dS_api_Item).Crc)])⟩] ?_
      refine GS.cd (!(S_api_Item.beq L (d.getD r dS_api_Item))) (fun U => ?_) (fun U => ?_)
      ·replace hm := br_t U hm
       refine GS.seq ?_
       refine GS.eg [2,3,85,86,99] [(4,.bool false)] [1,2,3,4,5,6,7,8] [] [] [] ?_
       have hy := Option.some.inj hm
       subst hy
       exact GS.rv [0] [] Tryz.func10 () []
      ·replace hm := br_f U hm
       refine GS.skip ?_
       refine GS.inBlock ?_
       refine GS.eg [99] [(86,vI ((r + 1 : Nat) : Int))] [] [] [(0,hP (vI ((r + 1 : Nat) : Int)))] [⟨(natw (drop_lt P) ad : ((vI (IntKind.i64.wrap ((r : Int) + 1))) : Value) = vI ((r + 1 : Nat) : Int))⟩] ?_
       refine GS.inLoop ?_
       exact GS.rs (Y ⟨G,r + 1⟩ ⟨drop_next P,hm⟩ (Nat.lt_succ_self _))
    | cons Q K =>
     replace hm := (hst90 _ _ _ _).symm.trans hm
     try dsimp only at hm
     refine GS.seq ?_
     refine GS.ez [] [(69,.bool (decide ((q : Int) < (b.length : Int))))] [] ?_
     refine GS.seq ?_
     refine GS.cd (decide ((q : Int) < (b.length : Int))) (fun _ => ?_) (fun an => absb (drop_dec T) an)
     refine GS.skip ?_
     refine GS.seq ?_
     refine GS.block ?_
     refine GS.seq ?_
     refine GS.ez [69] [(6,vI (q : Int))] [] ?_
     refine GS.seq ?_
     refine grd_elim hm (fun ag hm => ?_)
     refine GS.yg [6] [(81,.bool (!(S_api_Last.beq Q (c.getD q dS_api_Last))))] [] [] [(1,hL 7 0 0),(3,hA (.idx 2 q)),(4,hR 2 q 0 [vI Q.Client,vI Q.Number,vI Q.Errno,vI Q.Version.Epoch,vI Q.Version.N]),(6,hL 8 0 0),(8,hA (.idx 5 q)),(9,hR 5 q 0 [vI ((c.getD q dS_api_Last).Client),vI ((c.getD q dS_api_Last).Number),vI ((c.getD q dS_api_Last).Errno),vI (((c.getD q dS_api_Last).Version).Epoch),vI (((c.getD q dS_api_Last).Version).N)]),(10,hA (.eq))] [qE ((i 0).x),qE e,⟨(mlen S_api_Last.row b : b.length = (List.map S_api_Last.row b).length)⟩,qE (q : Int),⟨((drop_lt T) : q < b.length)⟩,qE (blk e),qE (offs e + q * 5),⟨(map_drop S_api_Last.row T : (List.map S_api_Last.row b)[q]? = some [vI Q.Client,vI Q.Number,vI Q.Errno,vI Q.Version.Epoch,vI Q.Version.N])⟩,qE ((i 1).x),qE g,⟨(mlen S_api_Last.row c : c.length = (List.map S_api_Last.row c).length)⟩,qE (q : Int),⟨ag⟩,qE (blk g),qE (offs g + q * 5),⟨(map_at S_api_Last.row dS_api_Last ag : (List.map S_api_Last.row c)[q]? = some [vI ((c.getD q dS_api_Last).Client),vI ((c.getD q dS_api_Last).Number),vI ((c.getD q dS_api_Last).Errno),vI (((c.getD q dS_api_Last).Version).Epoch),vI (((c.getD q dS_api_Last).Version).N)])⟩] ?_
     refine GS.cd (!(S_api_Last.beq Q (c.getD q dS_api_Last))) (fun Z => ?_) (fun Z => ?_)
     ·replace hm := br_t Z hm
      refine GS.seq ?_
      refine GS.eg [2,3,67,68,81] [(4,.bool false)] [1,2,3,4,5,6,7,8] [] [] [] ?_
      have hy := Option.some.inj hm
      subst hy
      exact GS.rv [0] [] Tryz.func10 () []
     ·replace hm := br_f Z hm
      refine GS.skip ?_
      refine GS.inBlock ?_
      refine GS.eg [81] [(68,vI ((q + 1 : Nat) : Int))] [] [] [(0,hP (vI ((q + 1 : Nat) : Int)))] [⟨(natw (drop_lt T) al : ((vI (IntKind.i64.wrap ((q : Int) + 1))) : Value) = vI ((q + 1 : Nat) : Int))⟩] ?_
      refine GS.inLoop ?_
      exact GS.rs (ac ⟨K,q + 1⟩ ⟨drop_next T,hm⟩ (Nat.lt_succ_self _))
   | cons H J =>
    replace hm := (hst50 _ _ _ _).symm.trans hm
    try dsimp only at hm
    refine GS.seq ?_
    refine GS.ez [] [(51,.bool (decide ((p : Int) < (k.length : Int))))] [] ?_
    refine GS.seq ?_
    refine GS.cd (decide ((p : Int) < (k.length : Int))) (fun _ => ?_) (fun ao => absb (drop_dec R) ao)
    refine GS.skip ?_
    refine GS.seq ?_
    refine GS.block ?_
    refine GS.seq ?_
    refine GS.ez [51] [(5,vI (p : Int))] [] ?_
    refine GS.seq ?_
    refine grd_elim hm (fun ah hm => ?_)
    refine GS.yg [5] [(63,.bool (!(S_api_Entry.beq H (j.getD p dS_api_Entry))))] [] [] [(1,hL 7 0 0),(3,hA (.idx 1 p)),(4,hR 1 p 0 [vI H.Version.Epoch,vI H.Version.N,.bool H.Remove,vI H.Errno,.string H.Name,vI H.Client,vI H.Number]),(6,hL 8 0 0),(8,hA (.idx 4 p)),(9,hR 4 p 0 [vI (((j.getD p dS_api_Entry).Version).Epoch),vI (((j.getD p dS_api_Entry).Version).N),.bool ((j.getD p dS_api_Entry).Remove),vI ((j.getD p dS_api_Entry).Errno),.string ((j.getD p dS_api_Entry).Name),vI ((j.getD p dS_api_Entry).Client),vI ((j.getD p dS_api_Entry).Number)]),(10,hA (.eq))] [qE ((i 0).x),qE l,⟨(mlen S_api_Entry.row k : k.length = (List.map S_api_Entry.row k).length)⟩,qE (p : Int),⟨((drop_lt R) : p < k.length)⟩,qE (blk l),qE (offs l + p * 7),⟨(map_drop S_api_Entry.row R : (List.map S_api_Entry.row k)[p]? = some [vI H.Version.Epoch,vI H.Version.N,.bool H.Remove,vI H.Errno,.string H.Name,vI H.Client,vI H.Number])⟩,qE ((i 1).x),qE m,⟨(mlen S_api_Entry.row j : j.length = (List.map S_api_Entry.row j).length)⟩,qE (p : Int),⟨ah⟩,qE (blk m),qE (offs m + p * 7),⟨(map_at S_api_Entry.row dS_api_Entry ah : (List.map S_api_Entry.row j)[p]? = some [vI (((j.getD p dS_api_Entry).Version).Epoch),vI (((j.getD p dS_api_Entry).Version).N),.bool ((j.getD p dS_api_Entry).Remove),vI ((j.getD p dS_api_Entry).Errno),.string ((j.getD p dS_api_Entry).Name),vI ((j.getD p dS_api_Entry).Client),vI ((j.getD p dS_api_Entry).Number)])⟩] ?_
    refine GS.cd (!(S_api_Entry.beq H (j.getD p dS_api_Entry))) (fun aa => ?_) (fun aa => ?_)
    ·replace hm := br_t aa hm
     refine GS.seq ?_
     refine GS.eg [2,3,49,50,63] [(4,.bool false)] [1,2,3,4,5,6,7,8] [] [] [] ?_
     have hy := Option.some.inj hm
     subst hy
     exact GS.rv [0] [] Tryz.func10 () []
    ·replace hm := br_f aa hm
     refine GS.skip ?_
     refine GS.inBlock ?_
     refine GS.eg [63] [(50,vI ((p + 1 : Nat) : Int))] [] [] [(0,hP (vI ((p + 1 : Nat) : Int)))] [⟨(natw (drop_lt R) aj : ((vI (IntKind.i64.wrap ((p : Int) + 1))) : Value) = vI ((p + 1 : Nat) : Int))⟩] ?_
     refine GS.inLoop ?_
     exact GS.rs (ab ⟨J,p + 1⟩ ⟨drop_next R,hm⟩ (Nat.lt_succ_self _))

theorem w_tholeref13_below (F : Nat) (a0 : S_api_Version) {y : Bool} (hm : m_tholeref13_below F a0 = some y) : CallG Tryz.prog 27 #[.agg #[vI a0.Epoch,vI a0.N]] (X := Unit) (fun (_ : Unit) => .bool y) [] [] (fun (_ : Unit) => []) := by
 rw [m_tholeref13_below] at hm
 refine GS.st Tryz.func27 Tryz.ntmps27 (fun w => ?_)
 refine GS.seq ?_
 refine GS.dg [0] (fun a => [(1,pA ((a 0).x) 0)]) [] (fun a => [(1,.cells ((a 0).x) 23 [vI a0.Epoch,vI a0.N])]) [(0,hN 1)] (fun a => []) (fun a => ?_)
 refine GS.seq ?_
 refine br_elim hm (fun h3 hm => ?_) (fun h3 hm => ?_)
 ·skip
  refine GS.eg [1] [(2,.bool true)] [1] [] [(1,hL 1 0 0),(3,hP (.bool true))] [qE ((a 0).x),⟨bool_eq h3⟩] ?_
  have hy := Option.some.inj hm
  subst hy
  exact GS.rv [0] [] Tryz.func27 () []
 ·skip
  refine GS.eg [1] [(2,.bool (decide (a0.N < 0)))] [1] [] [(1,hL 1 0 0),(3,hP (.bool false)),(5,hL 1 0 0)] [qE ((a 0).x),⟨bool_eq h3⟩,qE ((a 0).x)] ?_
  have hy := Option.some.inj hm
  subst hy
  exact GS.rv [0] [] Tryz.func27 () []

theorem w_tholeref13_Cmp (F : Nat) (a0 a1 : S_api_Version) {y : Int} (hm : m_tholeref13_Cmp F a0 a1 = some y) : CallG Tryz.prog 28 #[.agg #[vI a0.Epoch,vI a0.N],.agg #[vI a1.Epoch,vI a1.N]] (X := Unit) (fun (_ : Unit) => vI y) [] [] (fun (_ : Unit) => []) := by
 rw [m_tholeref13_Cmp] at hm
 refine GS.st Tryz.func28 Tryz.ntmps28 (fun w => ?_)
 refine GS.seq ?_
 refine GS.dg [0,1] (fun a => [(2,pA ((a 0).x) 0),(3,pA ((a 1).x) 0)]) [] (fun a => [(1,.cells ((a 0).x) 23 [vI a0.Epoch,vI a0.N]),(2,.cells ((a 1).x) 23 [vI a1.Epoch,vI a1.N])]) [(0,hN 1),(1,hN 2)] (fun a => []) (fun a => ?_)
 refine GS.seq ?_
 refine GS.block ?_
 refine GS.seq ?_
 refine GS.seq ?_
 refine GS.eg [] [(5,.bool (decide (a0.Epoch < a1.Epoch)))] [] [] [(1,hL 1 0 0),(3,hL 2 0 0)] [qE ((a 0).x),qE ((a 1).x)] ?_
 refine jn_elim hm (fun J9 f hm => ?_)
 refine GS.cu (ι := Bool) (fun (b : Bool) => J9 b = some y) [] (fun (b : Bool) => [(5,.bool b)]) [] (fun (b : Bool) => []) ?_ ?_
 rotate_left
 ·intro c
  refine GS.cd (decide (a0.Epoch < a1.Epoch)) (fun h3 => ?_) (fun h3 => ?_)
  ·replace hm := br_t h3 hm
   refine GS.skip ?_
   exact GS.rs (c (decide (a0.Epoch < a1.Epoch)) hm)
  ·replace hm := br_f h3 hm
   refine br_elim hm (fun h5 hm => ?_) (fun h5 hm => ?_)
   ·skip
    refine GS.eg [] [(5,.bool (decide (a0.N < a1.N)))] [] [] [(1,hL 1 0 0),(3,hL 2 0 0),(5,hP (.bool true)),(7,hL 1 0 0),(9,hL 2 0 0)] [qE ((a 0).x),qE ((a 1).x),⟨bool_eq h5⟩,qE ((a 0).x),qE ((a 1).x)] ?_
    exact GS.rs (c (decide (a0.N < a1.N)) hm)
   ·skip
    refine GS.eg [] [(5,.bool false)] [] [] [(1,hL 1 0 0),(3,hL 2 0 0),(5,hP (.bool false))] [qE ((a 0).x),qE ((a 1).x),⟨bool_eq h5⟩] ?_
    exact GS.rs (c false hm)
 ·rintro b hm
  replace hm := (f _).symm.trans hm
  try dsimp only at hm
  refine GS.cd b (fun d => ?_) (fun d => ?_)
  ·replace hm := br_t d hm
   refine GS.seq ?_
   refine GS.eg [2,3,5] [(4,vI (-1))] [1,2] [] [] [] ?_
   have hy := Option.some.inj hm
   subst hy
   exact GS.rv [0] [] Tryz.func28 () []
  ·replace hm := br_f d hm
   refine GS.seq ?_
   refine GS.eg [2,3,5] [(23,.bool (S_api_Version.beq a0 a1))] [1,2] [] [(0,hL 1 0 0),(1,hL 2 0 0),(2,hA (.eq))] [qE ((a 0).x),qE ((a 1).x)] ?_
   refine GS.cd (S_api_Version.beq a0 a1) (fun e => ?_) (fun e => ?_)
   ·replace hm := br_t e hm
    refine GS.seq ?_
    refine GS.ez [23] [(4,vI 0)] [] ?_
    have hy := Option.some.inj hm
    subst hy
    exact GS.rv [0] [] Tryz.func28 () []
   ·replace hm := br_f e hm
    refine GS.skip ?_
    refine GS.inBlock ?_
    refine GS.seq ?_
    refine GS.ez [23] [(4,vI 1)] [] ?_
    have hy := Option.some.inj hm
    subst hy
    exact GS.rv [0] [] Tryz.func28 () []

theorem w_tholeref09_Good (F : Nat) (a0 : ByteArray) {y : Bool} (hm : m_tholeref09_Good F a0 = some y) : CallG Tryz.prog 29 #[.string a0] (X := Unit) (fun (_ : Unit) => .bool y) [] [] (fun (_ : Unit) => []) := by
 rw [m_tholeref09_Good] at hm
 refine GS.st Tryz.func29 Tryz.ntmps29 (fun w => ?_)
 refine GS.seq ?_
 refine GS.ez [] [] [] ?_
 refine GS.seq ?_
 refine GS.seq ?_
 refine GS.ez [] [(3,vI 0)] [] ?_
 refine GS.block ?_
 refine GS.loop ?_
 refine grd_elim hm (fun l hm => ?_)
 refine loopC_elim hm (fun st44 fn45 hst46 hfn47 hm => ?_)
 refine GS.li (ι := Nat × Nat) (fun ⟨b,a⟩ => (((a0.size : Int)) - (a : Int) : Int).toNat = b ∧ loopC st44 fn45 b a () = some y) (fun ⟨b,a⟩ => b) [] (fun ⟨b,a⟩ => [(3,vI (a : Int))]) [] (fun ⟨b,a⟩ => []) ?_ ⟨(Int.toNat ((a0.size : Int) - (0 : Int))),0⟩ ⟨rfl,hm⟩
 rintro ⟨b,a⟩ ⟨d,hm⟩ i
 cases b with
 | zero =>
  replace hm := (hfn47 _ _).symm.trans hm
  try dsimp only at hm
  refine GS.seq ?_
  refine GS.seq ?_
  refine GS.ez [] [(7,.bool (decide ((a : Int) < (a0.size : Int))))] [] ?_
  refine GS.cd (decide ((a : Int) < (a0.size : Int))) (fun m => absb m (cnt0 d)) (fun _ => ?_)
  refine GS.exit rfl ?_
  refine GS.seq ?_
  refine br_elim hm (fun e hm => ?_) (fun e hm => ?_)
  ·skip
   refine GS.eg [0,3,7] [(2,.bool (decide ((a0.size : Int) ≤ 64)))] [] [] [(3,hP (.bool true))] [⟨bool_eq e⟩] ?_
   have hy := Option.some.inj hm
   subst hy
   exact GS.rv [0] [] Tryz.func29 () []
  ·skip
   refine GS.eg [0,3,7] [(2,.bool false)] [] [] [(3,hP (.bool false))] [⟨bool_eq e⟩] ?_
   have hy := Option.some.inj hm
   subst hy
   exact GS.rv [0] [] Tryz.func29 () []
 | succ b =>
  replace hm := (hst46 _ _ _).symm.trans hm
  try dsimp only at hm
  refine GS.seq ?_
  refine GS.seq ?_
  refine GS.ez [] [(7,.bool (decide ((a : Int) < (a0.size : Int))))] [] ?_
  refine GS.cd (decide ((a : Int) < (a0.size : Int))) (fun _ => ?_) (fun n => absb (cnt1 d) n)
  refine GS.skip ?_
  refine GS.seq ?_
  refine GS.block ?_
  refine GS.seq ?_
  refine jn_elim hm (fun o j hm => ?_)
  refine GS.cu (ι := Bool) (fun (c : Bool) => o c = some y) [7] (fun (c : Bool) => [(19,.bool c)]) [] (fun (c : Bool) => []) ?_ ?_
  rotate_left
  ·intro k
   refine grd_elim hm (fun f hm => ?_)
   refine br_elim hm (fun g hm => ?_) (fun g hm => ?_)
   ·skip
    refine GS.eg [7] [(19,.bool true)] [] [] [(2,hA (.elt a)),(4,hP (.bool true))] [qE (a : Int),⟨f⟩,⟨bool_eq g⟩] ?_
    exact GS.rs (k true hm)
   ·skip
    refine GS.eg [7] [(19,.bool (decide ((((a0.data.getD a 0).toNat : Nat) : Int) > 126)))] [] [] [(2,hA (.elt a)),(4,hP (.bool false)),(7,hA (.elt a))] [qE (a : Int),⟨f⟩,⟨bool_eq g⟩,qE (a : Int),⟨f⟩] ?_
    exact GS.rs (k (decide ((((a0.data.getD a 0).toNat : Nat) : Int) > 126)) hm)
  ·rintro c hm
   replace hm := (j _).symm.trans hm
   try dsimp only at hm
   refine GS.cd c (fun h => ?_) (fun h => ?_)
   ·replace hm := br_t h hm
    refine GS.seq ?_
    refine GS.ez [0,3,19] [(2,.bool false)] [] ?_
    have hy := Option.some.inj hm
    subst hy
    exact GS.rv [0] [] Tryz.func29 () []
   ·replace hm := br_f h hm
    refine GS.skip ?_
    refine GS.inBlock ?_
    refine GS.eg [19] [(3,vI ((a + 1 : Nat) : Int))] [] [] [(1,hP (vI ((a + 1 : Nat) : Int)))] [⟨(natwB (cnt1 d) l : ((vI (IntKind.i64.wrap ((a : Int) + 1))) : Value) = vI ((a + 1 : Nat) : Int))⟩] ?_
    refine GS.inLoop ?_
    exact GS.rs (i ⟨b,a + 1⟩ ⟨cntN d,hm⟩ (Nat.lt_succ_self _))

end Go.Proofs.YtjnbkhnebmlilaaGreat
