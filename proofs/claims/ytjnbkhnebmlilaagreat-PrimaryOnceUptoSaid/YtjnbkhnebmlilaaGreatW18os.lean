/-
 CHAPTER 18o: the functions do what their models say (19).
-/
import Derived.Test.YtjnbkhnebmlilaaGreatE18o
import Derived.Test.YtjnbkhnebmlilaaGreatW18or
set_option linter.unusedVariables false
set_option linter.unusedSimpArgs false
set_option maxRecDepth 100000
set_option maxHeartbeats 8000000
namespace Go.Proofs.YtjnbkhnebmlilaaGreat
open Go Go.RowKit Sx

theorem w_tholeref13_Check (F : Nat) (q : Int) (g : S_api_Version) (e : Option Addr) (j : Nat) (f : List S_api_Entry) (c : Option Addr) (i : Nat) (d : List S_api_Last) (b : Option Addr) (h : Nat) (a : List S_api_Item) {y : Int} (hm : m_tholeref13_Check F q g f d a = some y) : CallG Tryz.prog 6 #[.agg ((kc15 q g.Epoch g.N e f.length j c d.length i b a.length h)).toArray] (X := Unit) (fun (_ : Unit) => vI y) [] [r31 e f,r94 c d,r91 b a] (fun (_ : Unit) => []) := by
 rw [m_tholeref13_Check] at hm
 refine GS.st Tryz.func6 Tryz.ntmps6 (fun w => ?_)
 refine GS.seq ?_
 refine GS.dg [0] (fun o => [(1,pA ((o 0).x) 0)]) [] (fun o => [(4,.cells ((o 0).x) 28 (kc15 q g.Epoch g.N e f.length j c d.length i b a.length h))]) [(0,hN 4)] (fun o => []) (fun o => ?_)
 refine GS.seq ?_
 refine GS.seq ?_
 refine jn_elim hm (fun J7 bg hm => ?_)
 refine GS.cu (ι := Bool) (fun (Q : Bool) => J7 Q = some y) [] (fun (Q : Bool) => [(23,.bool Q)]) [] (fun (Q : Bool) => []) ?_ ?_
 rotate_left
 ·intro H8
  refine br_elim hm (fun h3 hm => ?_) (fun h3 hm => ?_)
  ·skip
   refine GS.eg [] [(23,.bool true)] [] [] [(1,hL 4 0 0),(3,hP (.bool true))] [qE ((o 0).x),⟨bool_eq h3⟩] ?_
   exact GS.rs (H8 true hm)
  ·skip
   refine bnd_elim hm (fun y4 e5 hm => ?_)
   refine br_elim hm (fun h6 hm => ?_) (fun h6 hm => ?_)
   ·skip
    refine GS.eg [] [(23,.bool true)] [] [] [(1,hL 4 0 0),(3,hP (.bool false)),(5,hL 4 0 0),(6,hC [] (.bool y4)),(8,hP (.bool true))] [qE ((o 0).x),⟨bool_eq h3⟩,qE ((o 0).x),⟨(w_tholeref13_below F g e5).ok (es := []) trivial⟩,⟨bool_eq h6⟩] ?_
    exact GS.rs (H8 true hm)
   ·skip
    refine GS.eg [] [(23,.bool (decide ((a.length : Int) > 32)))] [] [] [(1,hL 4 0 0),(3,hP (.bool false)),(5,hL 4 0 0),(6,hC [] (.bool y4)),(8,hP (.bool false)),(10,hL 4 0 0)] [qE ((o 0).x),⟨bool_eq h3⟩,qE ((o 0).x),⟨(w_tholeref13_below F g e5).ok (es := []) trivial⟩,⟨bool_eq h6⟩,qE ((o 0).x)] ?_
    exact GS.rs (H8 (decide ((a.length : Int) > 32)) hm)
 ·rintro Q hm
  replace hm := (bg _).symm.trans hm
  try dsimp only at hm
  refine GS.cd Q (fun av => ?_) (fun av => ?_)
  ·replace hm := br_t av hm
   refine GS.seq ?_
   refine GS.eg [1,23] [(2,vI 22)] [1,2,3,4] [] [] [] ?_
   have hy := Option.some.inj hm
   subst hy
   exact GS.rv [0] [] Tryz.func6 () []
  ·replace hm := br_f av hm
   refine GS.skip ?_
   refine GS.seq ?_
   refine GS.dg [23] (fun k => [(3,pA ((k 2).x) 0)]) [] (fun k => [(5,.cells ((k 2).x) 23 [vI g.Epoch,vI g.N])]) [(1,hL 4 0 0),(2,hN 5),(3,hS 5)] (fun k => [qE ((o 0).x),qE ((k 2).x),qE true]) (fun k => ?_)
   refine GS.seq ?_
   refine GS.seq ?_
   refine GS.eg [] [(27,.slice e f.length j),(28,vI (f.length : Int)),(29,vI 0)] [] [] [(1,hL 4 0 0)] [qE ((o 0).x)] ?_
   refine GS.block ?_
   refine GS.loop ?_
   refine grd_elim hm (fun bh hm => ?_)
   refine loopL_elim hm (fun st73 fn74 hst75 hfn76 hm => ?_)
   refine GS.li (ι := List S_api_Entry × Nat × Int × Int) (fun ⟨L,u,m,n⟩ => f.drop u = L ∧ loopL st73 fn74 L u (m,n) = some y) (fun ⟨L,u,m,n⟩ => L.length) [] (fun ⟨L,u,m,n⟩ => [(29,vI (u : Int))]) [] (fun ⟨L,u,m,n⟩ => [(5,.cells ((k 2).x) 23 [vI m,vI n])]) ?_ ⟨f,0,g.Epoch,g.N⟩ ⟨List.drop_zero ..,hm⟩
   rintro ⟨L,u,m,n⟩ ⟨Y,hm⟩ a2
   cases L with
   | nil =>
    replace hm := (hfn76 _ _).symm.trans hm
    try dsimp only at hm
    refine GS.seq ?_
    refine GS.ez [] [(30,.bool (decide ((u : Int) < (f.length : Int))))] [] ?_
    refine GS.seq ?_
    refine GS.cd (decide ((u : Int) < (f.length : Int))) (fun bi => absb bi (drop_dec0 Y)) (fun _ => ?_)
    refine GS.exit rfl ?_
    refine GS.seq ?_
    refine GS.seq ?_
    refine GS.eg [27,28,29,30] [(47,.slice b a.length h),(48,vI (a.length : Int)),(49,vI 0)] [] [] [(1,hL 4 0 0)] [qE ((o 0).x)] ?_
    refine GS.block ?_
    refine GS.loop ?_
    refine grd_elim hm (fun a3 hm => ?_)
    refine loopL_elim hm (fun st155 fn156 hst157 hfn158 hm => ?_)
    refine GS.li (ι := List S_api_Item × Nat) (fun ⟨G,p⟩ => a.drop p = G ∧ loopL st155 fn156 G p () = some y) (fun ⟨G,p⟩ => G.length) [] (fun ⟨G,p⟩ => [(49,vI (p : Int))]) [] (fun ⟨G,p⟩ => []) ?_ ⟨a,0⟩ ⟨List.drop_zero ..,hm⟩
    rintro ⟨G,p⟩ ⟨R,hm⟩ aw
    cases G with
    | nil =>
     replace hm := (hfn158 _ _).symm.trans hm
     try dsimp only at hm
     refine GS.seq ?_
     refine GS.ez [] [(50,.bool (decide ((p : Int) < (a.length : Int))))] [] ?_
     refine GS.seq ?_
     refine GS.cd (decide ((p : Int) < (a.length : Int))) (fun a4 => absb a4 (drop_dec0 R)) (fun _ => ?_)
     refine GS.exit rfl ?_
     refine GS.seq ?_
     refine GS.seq ?_
     refine GS.eg [47,48,49,50] [(94,.slice c d.length i),(95,vI (d.length : Int)),(96,vI 0)] [] [] [(1,hL 4 0 0)] [qE ((o 0).x)] ?_
     refine GS.block ?_
     refine GS.loop ?_
     refine grd_elim hm (fun a5 hm => ?_)
     refine loopL_elim hm (fun st225 fn226 hst227 hfn228 hm => ?_)
     refine GS.li (ι := List S_api_Last × Nat) (fun ⟨H,l⟩ => d.drop l = H ∧ loopL st225 fn226 H l () = some y) (fun ⟨H,l⟩ => H.length) [] (fun ⟨H,l⟩ => [(96,vI (l : Int))]) [] (fun ⟨H,l⟩ => []) ?_ ⟨d,0⟩ ⟨List.drop_zero ..,hm⟩
     rintro ⟨H,l⟩ ⟨T,hm⟩ ax
     cases H with
     | nil =>
      replace hm := (hfn228 _ _).symm.trans hm
      try dsimp only at hm
      refine GS.seq ?_
      refine GS.ez [] [(97,.bool (decide ((l : Int) < (d.length : Int))))] [] ?_
      refine GS.seq ?_
      refine GS.cd (decide ((l : Int) < (d.length : Int))) (fun a6 => absb a6 (drop_dec0 T)) (fun _ => ?_)
      refine GS.exit rfl ?_
      refine GS.seq ?_
      refine GS.eg [1,3,94,95,96,97] [(2,vI 0)] [1,2,3,4,5] [] [] [] ?_
      have hy := Option.some.inj hm
      subst hy
      exact GS.rv [0] [] Tryz.func6 () []
     | cons v H =>
      replace hm := (hst227 _ _ _ _).symm.trans hm
      try dsimp only at hm
      refine GS.seq ?_
      refine GS.ez [] [(97,.bool (decide ((l : Int) < (d.length : Int))))] [] ?_
      refine GS.seq ?_
      refine GS.cd (decide ((l : Int) < (d.length : Int))) (fun _ => ?_) (fun a7 => absb (drop_dec T) a7)
      refine GS.skip ?_
      refine GS.seq ?_
      refine GS.block ?_
      refine GS.seq ?_
      refine GS.dg [97] (fun A => [(8,vI (l : Int)),(9,pA ((A 3).x) 0)]) [] (fun A => [(6,.cells ((A 3).x) 94 (kc17 v.Client v.Number v.Errno v.Version.Epoch v.Version.N))]) [(1,hA (.idx 2 l)),(2,hR 2 l 0 [vI v.Client,vI v.Number,vI v.Errno,vI v.Version.Epoch,vI v.Version.N]),(3,hN 6),(5,hS 6)] (fun A => [qE c,⟨(mlen S_api_Last.row d : d.length = (List.map S_api_Last.row d).length)⟩,qE (l : Int),⟨((drop_lt T) : l < d.length)⟩,qE (blk c),qE (offs c + l * 5),⟨(map_drop S_api_Last.row T : (List.map S_api_Last.row d)[l]? = some [vI v.Client,vI v.Number,vI v.Errno,vI v.Version.Epoch,vI v.Version.N])⟩,qE ((A 3).x),qE true]) (fun A => ?_)
      refine GS.seq ?_
      refine jn_elim hm (fun a8 ay hm => ?_)
      refine GS.cu (ι := Bool) (fun (J : Bool) => a8 J = some y) [8,9] (fun (J : Bool) => [(126,.bool J)]) [6] (fun (J : Bool) => []) ?_ ?_
      rotate_left
      ·intro af
       refine bnd_elim hm (fun K ag hm => ?_)
       refine br_elim hm (fun ac hm => ?_) (fun ac hm => ?_)
       ·skip
        refine GS.yg [8,9] [(126,.bool true)] [6] [] [(1,hL 6 0 0),(2,hC [] (.bool K)),(3,hP (.bool true))] [qE ((A 3).x),⟨(w_tholeref13_below F v.Version ag).ok (es := []) trivial⟩,⟨bool_eq ac⟩] ?_
        exact GS.rs (af true hm)
       ·skip
        refine bnd_elim hm (fun O ak hm => ?_)
        refine br_elim hm (fun ah hm => ?_) (fun ah hm => ?_)
        ·skip
         refine GS.yg [8,9] [(126,.bool true)] [6] [] [(1,hL 6 0 0),(2,hC [] (.bool K)),(3,hP (.bool false)),(5,hL 6 0 0),(6,hL 5 0 0),(7,hC [] (vI O)),(10,hP (.bool true))] [qE ((A 3).x),⟨(w_tholeref13_below F v.Version ag).ok (es := []) trivial⟩,⟨bool_eq ac⟩,qE ((A 3).x),qE ((k 2).x),⟨(w_tholeref13_Cmp F v.Version (S_api_Version.mk m n) ak).ok (es := []) trivial⟩,⟨bool_eq ah⟩] ?_
         exact GS.rs (af true hm)
        ·skip
         refine br_elim hm (fun al hm => ?_) (fun al hm => ?_)
         ·skip
          refine grd_elim hm (fun a9 hm => ?_)
          refine grd_elim hm (fun am hm => ?_)
          refine GS.yg [8,9] [(126,.bool (decide (((d.getD (Int.toNat ((l : Int) - 1)) dS_api_Last).Client) ≥ v.Client)))] [6] [] [(1,hL 6 0 0),(2,hC [] (.bool K)),(3,hP (.bool false)),(5,hL 6 0 0),(6,hL 5 0 0),(7,hC [] (vI O)),(10,hP (.bool false)),(13,hP (.bool true)),(15,hL 4 0 0),(17,hP (vI ((l : Int) - 1))),(18,hA (.idx 2 (Int.toNat ((l : Int) - 1)))),(20,hR 2 (Int.toNat ((l : Int) - 1)) 0 [vI ((d.getD (Int.toNat ((l : Int) - 1)) dS_api_Last).Client),vI ((d.getD (Int.toNat ((l : Int) - 1)) dS_api_Last).Number),vI ((d.getD (Int.toNat ((l : Int) - 1)) dS_api_Last).Errno),vI (((d.getD (Int.toNat ((l : Int) - 1)) dS_api_Last).Version).Epoch),vI (((d.getD (Int.toNat ((l : Int) - 1)) dS_api_Last).Version).N)]),(22,hL 6 0 0)] [qE ((A 3).x),⟨(w_tholeref13_below F v.Version ag).ok (es := []) trivial⟩,⟨bool_eq ac⟩,qE ((A 3).x),qE ((k 2).x),⟨(w_tholeref13_Cmp F v.Version (S_api_Version.mk m n) ak).ok (es := []) trivial⟩,⟨bool_eq ah⟩,⟨bool_eq al⟩,qE ((o 0).x),⟨(I64.w a9 : oW ((l : Int) - 1))⟩,qE c,⟨(mlen S_api_Last.row d : d.length = (List.map S_api_Last.row d).length)⟩,⟨am.eq⟩,⟨am.2⟩,qE (blk c),qE (offs c + (Int.toNat ((l : Int) - 1)) * 5),⟨(map_at S_api_Last.row dS_api_Last am.2 : (List.map S_api_Last.row d)[(Int.toNat ((l : Int) - 1))]? = some [vI ((d.getD (Int.toNat ((l : Int) - 1)) dS_api_Last).Client),vI ((d.getD (Int.toNat ((l : Int) - 1)) dS_api_Last).Number),vI ((d.getD (Int.toNat ((l : Int) - 1)) dS_api_Last).Errno),vI (((d.getD (Int.toNat ((l : Int) - 1)) dS_api_Last).Version).Epoch),vI (((d.getD (Int.toNat ((l : Int) - 1)) dS_api_Last).Version).N)])⟩,qE ((A 3).x)] ?_
          exact GS.rs (af (decide (((d.getD (Int.toNat ((l : Int) - 1)) dS_api_Last).Client) ≥ v.Client)) hm)
         ·skip
          refine GS.yg [8,9] [(126,.bool false)] [6] [] [(1,hL 6 0 0),(2,hC [] (.bool K)),(3,hP (.bool false)),(5,hL 6 0 0),(6,hL 5 0 0),(7,hC [] (vI O)),(10,hP (.bool false)),(13,hP (.bool false))] [qE ((A 3).x),⟨(w_tholeref13_below F v.Version ag).ok (es := []) trivial⟩,⟨bool_eq ac⟩,qE ((A 3).x),qE ((k 2).x),⟨(w_tholeref13_Cmp F v.Version (S_api_Version.mk m n) ak).ok (es := []) trivial⟩,⟨bool_eq ah⟩,⟨bool_eq al⟩] ?_
          exact GS.rs (af false hm)
      ·rintro J hm
       replace hm := (ay _).symm.trans hm
       try dsimp only at hm
       refine GS.cd J (fun an => ?_) (fun an => ?_)
       ·replace hm := br_t an hm
        refine GS.seq ?_
        refine GS.eg [1,3,94,95,96,126] [(2,vI 22)] [1,2,3,4,5] [] [] [] ?_
        have hy := Option.some.inj hm
        subst hy
        exact GS.rv [0] [] Tryz.func6 () []
       ·replace hm := br_f an hm
        refine GS.skip ?_
        refine GS.inBlock ?_
        refine GS.eg [126] [(96,vI ((l + 1 : Nat) : Int))] [] [] [(0,hP (vI ((l + 1 : Nat) : Int)))] [⟨(natw (drop_lt T) a5 : ((vI (IntKind.i64.wrap ((l : Int) + 1))) : Value) = vI ((l + 1 : Nat) : Int))⟩] ?_
        refine GS.inLoop ?_
        exact GS.rs (ax ⟨H,l + 1⟩ ⟨drop_next T,hm⟩ (Nat.lt_succ_self _))
    | cons s G =>
     replace hm := (hst157 _ _ _ _).symm.trans hm
     try dsimp only at hm
     refine GS.seq ?_
     refine GS.ez [] [(50,.bool (decide ((p : Int) < (a.length : Int))))] [] ?_
     refine GS.seq ?_
     refine GS.cd (decide ((p : Int) < (a.length : Int))) (fun _ => ?_) (fun ba => absb (drop_dec R) ba)
     refine GS.skip ?_
     refine GS.seq ?_
     refine GS.block ?_
     refine GS.seq ?_
     refine GS.dg [50] (fun r => [(6,vI (p : Int)),(7,pA ((r 3).x) 0)]) [] (fun r => [(6,.cells ((r 3).x) 91 (kc33 s.Name s.Version.Epoch s.Version.N s.Crc))]) [(1,hA (.idx 3 p)),(2,hR 3 p 0 [.string s.Name,vI s.Version.Epoch,vI s.Version.N,.int .u32 s.Crc]),(3,hN 6),(5,hS 6)] (fun r => [qE b,⟨(mlen S_api_Item.row a : a.length = (List.map S_api_Item.row a).length)⟩,qE (p : Int),⟨((drop_lt R) : p < a.length)⟩,qE (blk b),qE (offs b + p * 4),⟨(map_drop S_api_Item.row R : (List.map S_api_Item.row a)[p]? = some [.string s.Name,vI s.Version.Epoch,vI s.Version.N,.int .u32 s.Crc])⟩,qE ((r 3).x),qE true]) (fun r => ?_)
     refine GS.seq ?_
     refine jn_elim hm (fun bb az hm => ?_)
     refine GS.cu (ι := Bool) (fun (U : Bool) => bb U = some y) [6,7] (fun (U : Bool) => [(91,.bool U)]) [6] (fun (U : Bool) => []) ?_ ?_
     rotate_left
     ·intro Z
      refine bnd_elim hm (fun C aa hm => ?_)
      refine br_elim hm (fun W hm => ?_) (fun W hm => ?_)
      ·skip
       refine GS.yg [6,7] [(91,.bool true)] [6] [] [(1,hL 6 0 0),(2,hC [] (.bool C)),(4,hP (.bool true))] [qE ((r 3).x),⟨(w_tholeref09_Good F s.Name aa).ok (es := []) trivial⟩,⟨bool_eq W⟩] ?_
       exact GS.rs (Z true hm)
      ·skip
       refine bnd_elim hm (fun D ad hm => ?_)
       refine br_elim hm (fun ab hm => ?_) (fun ab hm => ?_)
       ·skip
        refine GS.yg [6,7] [(91,.bool true)] [6] [] [(1,hL 6 0 0),(2,hC [] (.bool C)),(4,hP (.bool false)),(6,hL 6 0 0),(7,hC [] (.bool D)),(9,hP (.bool true))] [qE ((r 3).x),⟨(w_tholeref09_Good F s.Name aa).ok (es := []) trivial⟩,⟨bool_eq W⟩,qE ((r 3).x),⟨(w_tholeref13_below F s.Version ad).ok (es := []) trivial⟩,⟨bool_eq ab⟩] ?_
        exact GS.rs (Z true hm)
       ·skip
        refine br_elim hm (fun ae hm => ?_) (fun ae hm => ?_)
        ·skip
         refine GS.yg [6,7] [(91,.bool true)] [6] [] [(1,hL 6 0 0),(2,hC [] (.bool C)),(4,hP (.bool false)),(6,hL 6 0 0),(7,hC [] (.bool D)),(9,hP (.bool false)),(11,hL 6 0 0),(13,hA (.eq)),(15,hP (.bool true))] [qE ((r 3).x),⟨(w_tholeref09_Good F s.Name aa).ok (es := []) trivial⟩,⟨bool_eq W⟩,qE ((r 3).x),⟨(w_tholeref13_below F s.Version ad).ok (es := []) trivial⟩,⟨bool_eq ab⟩,qE ((r 3).x),⟨bool_eq ae⟩] ?_
         exact GS.rs (Z true hm)
        ·skip
         refine bnd_elim hm (fun P ao hm => ?_)
         refine br_elim hm (fun ai hm => ?_) (fun ai hm => ?_)
         ·skip
          refine GS.yg [6,7] [(91,.bool true)] [6] [] [(1,hL 6 0 0),(2,hC [] (.bool C)),(4,hP (.bool false)),(6,hL 6 0 0),(7,hC [] (.bool D)),(9,hP (.bool false)),(11,hL 6 0 0),(13,hA (.eq)),(15,hP (.bool false)),(17,hL 6 0 0),(18,hL 5 0 0),(19,hC [] (vI P)),(22,hP (.bool true))] [qE ((r 3).x),⟨(w_tholeref09_Good F s.Name aa).ok (es := []) trivial⟩,⟨bool_eq W⟩,qE ((r 3).x),⟨(w_tholeref13_below F s.Version ad).ok (es := []) trivial⟩,⟨bool_eq ab⟩,qE ((r 3).x),⟨bool_eq ae⟩,qE ((r 3).x),qE ((k 2).x),⟨(w_tholeref13_Cmp F s.Version (S_api_Version.mk m n) ao).ok (es := []) trivial⟩,⟨bool_eq ai⟩] ?_
          exact GS.rs (Z true hm)
         ·skip
          refine br_elim hm (fun ap hm => ?_) (fun ap hm => ?_)
          ·skip
           refine grd_elim hm (fun bc hm => ?_)
           refine grd_elim hm (fun aq hm => ?_)
           refine GS.yg [6,7] [(91,.bool (!(Op.bytesLess ((a.getD (Int.toNat ((p : Int) - 1)) dS_api_Item).Name).toList s.Name.toList)))] [6] [] [(1,hL 6 0 0),(2,hC [] (.bool C)),(4,hP (.bool false)),(6,hL 6 0 0),(7,hC [] (.bool D)),(9,hP (.bool false)),(11,hL 6 0 0),(13,hA (.eq)),(15,hP (.bool false)),(17,hL 6 0 0),(18,hL 5 0 0),(19,hC [] (vI P)),(22,hP (.bool false)),(25,hP (.bool true)),(27,hL 4 0 0),(29,hP (vI ((p : Int) - 1))),(30,hA (.idx 3 (Int.toNat ((p : Int) - 1)))),(32,hR 3 (Int.toNat ((p : Int) - 1)) 0 [.string ((a.getD (Int.toNat ((p : Int) - 1)) dS_api_Item).Name),vI (((a.getD (Int.toNat ((p : Int) - 1)) dS_api_Item).Version).Epoch),vI (((a.getD (Int.toNat ((p : Int) - 1)) dS_api_Item).Version).N),.int .u32 ((a.getD (Int.toNat ((p : Int) - 1)) dS_api_Item).Crc)]),(34,hL 6 0 0)] [qE ((r 3).x),⟨(w_tholeref09_Good F s.Name aa).ok (es := []) trivial⟩,⟨bool_eq W⟩,qE ((r 3).x),⟨(w_tholeref13_below F s.Version ad).ok (es := []) trivial⟩,⟨bool_eq ab⟩,qE ((r 3).x),⟨bool_eq ae⟩,qE ((r 3).x),qE ((k 2).x),⟨(w_tholeref13_Cmp F s.Version (S_api_Version.mk m n) ao).ok (es := []) trivial⟩,⟨bool_eq ai⟩,⟨bool_eq ap⟩,qE ((o 0).x),⟨(I64.w bc : oW ((p : Int) - 1))⟩,qE b,⟨(mlen S_api_Item.row a : a.length = (List.map S_api_Item.row a).length)⟩,⟨aq.eq⟩,⟨aq.2⟩,qE (blk b),qE (offs b + (Int.toNat ((p : Int) - 1)) * 4),⟨(map_at S_api_Item.row dS_api_Item aq.2 : (List.map S_api_Item.row a)[(Int.toNat ((p : Int) - 1))]? = some [.string ((a.getD (Int.toNat ((p : Int) - 1)) dS_api_Item).Name),vI (((a.getD (Int.toNat ((p : Int) - 1)) dS_api_Item).Version).Epoch),vI (((a.getD (Int.toNat ((p : Int) - 1)) dS_api_Item).Version).N),.int .u32 ((a.getD (Int.toNat ((p : Int) - 1)) dS_api_Item).Crc)])⟩,qE ((r 3).x)] ?_
           exact GS.rs (Z (!(Op.bytesLess ((a.getD (Int.toNat ((p : Int) - 1)) dS_api_Item).Name).toList s.Name.toList)) hm)
          ·skip
           refine GS.yg [6,7] [(91,.bool false)] [6] [] [(1,hL 6 0 0),(2,hC [] (.bool C)),(4,hP (.bool false)),(6,hL 6 0 0),(7,hC [] (.bool D)),(9,hP (.bool false)),(11,hL 6 0 0),(13,hA (.eq)),(15,hP (.bool false)),(17,hL 6 0 0),(18,hL 5 0 0),(19,hC [] (vI P)),(22,hP (.bool false)),(25,hP (.bool false))] [qE ((r 3).x),⟨(w_tholeref09_Good F s.Name aa).ok (es := []) trivial⟩,⟨bool_eq W⟩,qE ((r 3).x),⟨(w_tholeref13_below F s.Version ad).ok (es := []) trivial⟩,⟨bool_eq ab⟩,qE ((r 3).x),⟨bool_eq ae⟩,qE ((r 3).x),qE ((k 2).x),⟨(w_tholeref13_Cmp F s.Version (S_api_Version.mk m n) ao).ok (es := []) trivial⟩,⟨bool_eq ai⟩,⟨bool_eq ap⟩] ?_
           exact GS.rs (Z false hm)
     ·rintro U hm
      replace hm := (az _).symm.trans hm
      try dsimp only at hm
      refine GS.cd U (fun ar => ?_) (fun ar => ?_)
      ·replace hm := br_t ar hm
       refine GS.seq ?_
       refine GS.eg [1,3,47,48,49,91] [(2,vI 22)] [1,2,3,4,5] [] [] [] ?_
       have hy := Option.some.inj hm
       subst hy
       exact GS.rv [0] [] Tryz.func6 () []
      ·replace hm := br_f ar hm
       refine GS.skip ?_
       refine GS.inBlock ?_
       refine GS.eg [91] [(49,vI ((p + 1 : Nat) : Int))] [] [] [(0,hP (vI ((p + 1 : Nat) : Int)))] [⟨(natw (drop_lt R) a3 : ((vI (IntKind.i64.wrap ((p : Int) + 1))) : Value) = vI ((p + 1 : Nat) : Int))⟩] ?_
       refine GS.inLoop ?_
       exact GS.rs (aw ⟨G,p + 1⟩ ⟨drop_next R,hm⟩ (Nat.lt_succ_self _))
   | cons z L =>
    replace hm := (hst75 _ _ _ _).symm.trans hm
    try dsimp only at hm
    refine GS.seq ?_
    refine GS.ez [] [(30,.bool (decide ((u : Int) < (f.length : Int))))] [] ?_
    refine GS.seq ?_
    refine GS.cd (decide ((u : Int) < (f.length : Int))) (fun _ => ?_) (fun bj => absb (drop_dec Y) bj)
    refine GS.skip ?_
    refine GS.seq ?_
    refine GS.block ?_
    refine GS.seq ?_
    refine GS.dg [30] (fun B => [(5,pA ((B 2).x) 0)]) [] (fun B => [(6,.cells ((B 2).x) 31 (kc35 z.Version.Epoch z.Version.N z.Remove z.Errno z.Name z.Client z.Number))]) [(0,hA (.idx 1 u)),(1,hR 1 u 0 [vI z.Version.Epoch,vI z.Version.N,.bool z.Remove,vI z.Errno,.string z.Name,vI z.Client,vI z.Number]),(2,hN 6),(3,hS 6)] (fun B => [qE e,⟨(mlen S_api_Entry.row f : f.length = (List.map S_api_Entry.row f).length)⟩,qE (u : Int),⟨((drop_lt Y) : u < f.length)⟩,qE (blk e),qE (offs e + u * 7),⟨(map_drop S_api_Entry.row Y : (List.map S_api_Entry.row f)[u]? = some [vI z.Version.Epoch,vI z.Version.N,.bool z.Remove,vI z.Errno,.string z.Name,vI z.Client,vI z.Number])⟩,qE ((B 2).x),qE true]) (fun B => ?_)
    refine GS.seq ?_
    refine GS.seq ?_
    refine jn_elim hm (fun bk bd hm => ?_)
    refine GS.cu (ι := Bool) (fun (V : Bool) => bk V = some y) [] (fun (V : Bool) => [(42,.bool V)]) [] (fun (V : Bool) => []) ?_ ?_
    rotate_left
    ·intro be
     refine bnd_elim hm (fun aj bf hm => ?_)
     refine br_elim hm (fun a0 hm => ?_) (fun a0 hm => ?_)
     ·skip
      refine GS.eg [] [(42,.bool true)] [] [] [(1,hL 6 0 0),(2,hC [] (.bool aj)),(3,hP (.bool true))] [qE ((B 2).x),⟨(w_tholeref13_below F z.Version bf).ok (es := []) trivial⟩,⟨bool_eq a0⟩] ?_
      exact GS.rs (be true hm)
     ·skip
      refine bnd_elim hm (fun au bl hm => ?_)
      refine GS.eg [] [(42,.bool (decide (au ≤ 0)))] [] [] [(1,hL 6 0 0),(2,hC [] (.bool aj)),(3,hP (.bool false)),(5,hL 6 0 0),(6,hL 5 0 0),(7,hC [] (vI au))] [qE ((B 2).x),⟨(w_tholeref13_below F z.Version bf).ok (es := []) trivial⟩,⟨bool_eq a0⟩,qE ((B 2).x),qE ((k 2).x),⟨(w_tholeref13_Cmp F z.Version (S_api_Version.mk m n) bl).ok (es := []) trivial⟩] ?_
      exact GS.rs (be (decide (au ≤ 0)) hm)
    ·rintro V hm
     replace hm := (bd _).symm.trans hm
     try dsimp only at hm
     refine GS.cd V (fun a1 => ?_) (fun a1 => ?_)
     ·replace hm := br_t a1 hm
      refine GS.seq ?_
      refine GS.eg [1,3,5,27,28,29,42] [(2,vI 22)] [1,2,3,4,5,6] [] [] [] ?_
      have hy := Option.some.inj hm
      subst hy
      exact GS.rv [0] [] Tryz.func6 () []
     ·replace hm := br_f a1 hm
      refine GS.skip ?_
      refine GS.eg [5,42] [] [6] [(5,.cells ((k 2).x) 23 [vI z.Version.Epoch,vI z.Version.N])] [(1,hL 6 0 0),(2,hS 5)] [qE ((B 2).x),qE ((k 2).x),qE true] ?_
      refine GS.inBlock ?_
      refine GS.eg [] [(29,vI ((u + 1 : Nat) : Int))] [] [] [(0,hP (vI ((u + 1 : Nat) : Int)))] [⟨(natw (drop_lt Y) bh : ((vI (IntKind.i64.wrap ((u : Int) + 1))) : Value) = vI ((u + 1 : Nat) : Int))⟩] ?_
      refine GS.inLoop ?_
      exact GS.rs (a2 ⟨L,u + 1,z.Version.Epoch,z.Version.N⟩ ⟨drop_next Y,hm⟩ (Nat.lt_succ_self _))

end Go.Proofs.YtjnbkhnebmlilaaGreat
