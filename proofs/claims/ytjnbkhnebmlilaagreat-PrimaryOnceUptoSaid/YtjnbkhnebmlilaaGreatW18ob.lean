/-
 CHAPTER 18o: the functions do what their models say (2).
-/
import Derived.Test.YtjnbkhnebmlilaaGreatE18o
import Derived.Test.YtjnbkhnebmlilaaGreatW18oa
set_option linter.unusedVariables false
set_option linter.unusedSimpArgs false
set_option maxRecDepth 100000
set_option maxHeartbeats 8000000
namespace Go.Proofs.YtjnbkhnebmlilaaGreat
open Go Go.RowKit Sx

theorem w_place_Good (F : Nat) (a0 : ByteArray) {y : Bool} (hm : m_place_Good F a0 = some y) : CallG Tryz.prog 38 #[.string a0] (X := Unit) (fun (_ : Unit) => .bool y) [] [] (fun (_ : Unit) => []) := by
 rw [m_place_Good] at hm
 refine GS.st Tryz.func38 Tryz.ntmps38 (fun w => ?_)
 refine GS.seq ?_
 refine GS.ez [] [] [] ?_
 refine GS.seq ?_
 refine GS.seq ?_
 refine GS.ez [] [(6,vI (a0.size : Int)),(7,vI 0)] [] ?_
 refine GS.block ?_
 refine GS.loop ?_
 refine grd_elim hm (fun k hm => ?_)
 refine loopC_elim hm (fun st53 fn54 hst55 hfn56 hm => ?_)
 refine GS.li (ι := Nat × Nat) (fun ⟨b,a⟩ => (((a0.size : Int)) - (a : Int) : Int).toNat = b ∧ loopC st53 fn54 b a () = some y) (fun ⟨b,a⟩ => b) [] (fun ⟨b,a⟩ => [(7,vI (a : Int))]) [] (fun ⟨b,a⟩ => []) ?_ ⟨(Int.toNat ((a0.size : Int) - (0 : Int))),0⟩ ⟨rfl,hm⟩
 rintro ⟨b,a⟩ ⟨d,hm⟩ h
 cases b with
 | zero =>
  replace hm := (hfn56 _ _).symm.trans hm
  try dsimp only at hm
  refine GS.seq ?_
  refine GS.ez [] [(8,.bool (decide ((a : Int) < (a0.size : Int))))] [] ?_
  refine GS.seq ?_
  refine GS.cd (decide ((a : Int) < (a0.size : Int))) (fun l => absb l (cnt0 d)) (fun _ => ?_)
  refine GS.exit rfl ?_
  refine GS.seq ?_
  refine br_elim hm (fun e hm => ?_) (fun e hm => ?_)
  ·skip
   refine GS.eg [0,6,7,8] [(2,.bool (decide ((a0.size : Int) ≤ 64)))] [] [] [(2,hP (.bool true))] [⟨bool_eq e⟩] ?_
   have hy := Option.some.inj hm
   subst hy
   exact GS.rv [0] [] Tryz.func38 () []
  ·skip
   refine GS.eg [0,6,7,8] [(2,.bool false)] [] [] [(2,hP (.bool false))] [⟨bool_eq e⟩] ?_
   have hy := Option.some.inj hm
   subst hy
   exact GS.rv [0] [] Tryz.func38 () []
 | succ b =>
  replace hm := (hst55 _ _ _).symm.trans hm
  try dsimp only at hm
  refine GS.seq ?_
  refine GS.ez [] [(8,.bool (decide ((a : Int) < (a0.size : Int))))] [] ?_
  refine GS.seq ?_
  refine GS.cd (decide ((a : Int) < (a0.size : Int))) (fun _ => ?_) (fun m => absb (cnt1 d) m)
  refine GS.skip ?_
  refine GS.seq ?_
  refine GS.block ?_
  refine GS.seq ?_
  refine GS.ez [8] [(3,vI (a : Int))] [] ?_
  refine GS.seq ?_
  refine grd_elim hm (fun n hm => ?_)
  refine GS.eg [3] [(4,.int .u8 (((a0.data.getD a 0).toNat : Nat) : Int))] [] [] [(2,hA (.elt a))] [qE (a : Int),⟨n⟩] ?_
  refine GS.block ?_
  refine GS.seq ?_
  refine GS.seq ?_
  refine GS.ez [] [(13,.bool (decide ((((a0.data.getD a 0).toNat : Nat) : Int) < 33)))] [] ?_
  refine jn_elim hm (fun o i hm => ?_)
  refine GS.cu (ι := Bool) (fun (c : Bool) => o c = some y) [4] (fun (c : Bool) => [(13,.bool c)]) [] (fun (c : Bool) => []) ?_ ?_
  rotate_left
  ·intro j
   refine GS.cd (decide ((((a0.data.getD a 0).toNat : Nat) : Int) < 33)) (fun f => ?_) (fun f => ?_)
   ·replace hm := br_t f hm
    refine GS.skip ?_
    exact GS.rs (j (decide ((((a0.data.getD a 0).toNat : Nat) : Int) < 33)) hm)
   ·replace hm := br_f f hm
    refine GS.ez [4] [(13,.bool (decide ((((a0.data.getD a 0).toNat : Nat) : Int) > 126)))] [] ?_
    exact GS.rs (j (decide ((((a0.data.getD a 0).toNat : Nat) : Int) > 126)) hm)
  ·rintro c hm
   replace hm := (i _).symm.trans hm
   try dsimp only at hm
   refine GS.cd c (fun g => ?_) (fun g => ?_)
   ·replace hm := br_t g hm
    refine GS.seq ?_
    refine GS.ez [0,6,7,13] [(2,.bool false)] [] ?_
    have hy := Option.some.inj hm
    subst hy
    exact GS.rv [0] [] Tryz.func38 () []
   ·replace hm := br_f g hm
    refine GS.skip ?_
    refine GS.inBlock ?_
    refine GS.inBlock ?_
    refine GS.eg [13] [(7,vI ((a + 1 : Nat) : Int))] [] [] [(0,hP (vI ((a + 1 : Nat) : Int)))] [⟨(natwB (cnt1 d) k : ((vI (IntKind.i64.wrap ((a : Int) + 1))) : Value) = vI ((a + 1 : Nat) : Int))⟩] ?_
    refine GS.inLoop ?_
    exact GS.rs (h ⟨b,a + 1⟩ ⟨cntN d,hm⟩ (Nat.lt_succ_self _))

theorem w_primary_Verdict (F : Nat) (u : Int) (o : S_api_Version) (l : Option Addr) (s : Nat) (p : List S_api_Entry) (h : Option Addr) (q : Nat) (k : List S_api_Last) (i : Option Addr) (r : Nat) (j : List S_api_Item) (d : Int) (f : ByteArray) (b : Option Addr) (e : Nat) (c : List UInt8) (a : S_api_Version) {y : Int} (hm : m_primary_Verdict F u o p k j d f c a = some y) : CallG Tryz.prog 11 #[.agg ((kc15 u o.Epoch o.N l p.length s h k.length q i j.length r)).toArray,.agg ((kc31 d f b c.length e a.Epoch a.N)).toArray] (X := Unit) (fun (_ : Unit) => vI y) [] [r31 l p,r94 h k,r91 i j,r5 b c] (fun (_ : Unit) => []) := by
 rw [m_primary_Verdict] at hm
 refine GS.st Tryz.func11 Tryz.ntmps11 (fun w => ?_)
 refine GS.seq ?_
 refine GS.dg [0,1] (fun g => [(2,pA ((g 0).x) 0),(3,pA ((g 1).x) 0)]) [] (fun g => [(5,.cells ((g 0).x) 28 (kc15 u o.Epoch o.N l p.length s h k.length q i j.length r)),(6,.cells ((g 1).x) 34 (kc31 d f b c.length e a.Epoch a.N))]) [(0,hN 5),(1,hN 6)] (fun g => []) (fun g => ?_)
 refine GS.seq ?_
 refine bnd_elim hm (fun y3 e4 hm => ?_)
 refine GS.dg [] (fun m => [(5,pA ((m 7).x) 0),(6,.bool y3.2)]) [] (fun m => [(7,.cells ((m 7).x) 91 (kc33 y3.1.Name y3.1.Version.Epoch y3.1.Version.N y3.1.Crc))]) [(0,hL 5 0 0),(2,hL 6 0 0),(3,hC [1,2,3] (.tuple #[.agg ((kc33 y3.1.Name y3.1.Version.Epoch y3.1.Version.N y3.1.Crc)).toArray,.bool y3.2])),(7,hN 7),(8,hS 7)] (fun m => [qE ((g 0).x),qE ((g 1).x),⟨(w_pglog_Find F u o l s p h q k i r j f e4).ok (es := [some (r31 l p),some (r94 h k),some (r91 i j)]) ⟨(.inl ⟨_,mm0,Cov.refl _⟩),(.inl ⟨_,mm1,Cov.refl _⟩),(.inl ⟨_,mm2,Cov.refl _⟩),trivial⟩⟩,qE ((m 7).x),qE true]) (fun m => ?_)
 refine GS.seq ?_
 refine jn_elim hm (fun J7 ad hm => ?_)
 refine GS.cu (ι := Bool) (fun (n : Bool) => J7 n = some y) [2] (fun (n : Bool) => [(7,.bool n)]) [1,2,3,5] (fun (n : Bool) => []) ?_ ?_
 rotate_left
 ·intro H8
  refine br_elim hm (fun h6 hm => ?_) (fun h6 hm => ?_)
  ·skip
   refine GS.eg [2] [(7,.bool (decide ((j.length : Int) ≥ 32)))] [1,2,3,5] [] [(2,hP (.bool true)),(4,hL 5 0 0)] [⟨bool_eq h6⟩,qE ((g 0).x)] ?_
   exact GS.rs (H8 (decide ((j.length : Int) ≥ 32)) hm)
  ·skip
   refine GS.eg [2] [(7,.bool false)] [1,2,3,5] [] [(2,hP (.bool false))] [⟨bool_eq h6⟩] ?_
   exact GS.rs (H8 false hm)
 ·rintro n hm
  replace hm := (ad _).symm.trans hm
  try dsimp only at hm
  refine GS.seq ?_
  refine GS.seq ?_
  refine GS.eg [] [(24,vI d)] [] [] [(1,hL 6 0 0)] [qE ((g 1).x)] ?_
  refine GS.block ?_
  refine GS.seq ?_
  refine GS.seq ?_
  refine GS.ez [] [(25,.bool (d == 2))] [] ?_
  refine jn_elim hm (fun ae V hm => ?_)
  refine GS.cu (ι := Bool) (fun (v : Bool) => ae v = some y) [24] (fun (v : Bool) => [(25,.bool v)]) [] (fun (v : Bool) => []) ?_ ?_
  rotate_left
  ·intro D
   refine GS.cd (d == 2) (fun G => ?_) (fun G => ?_)
   ·replace hm := br_t G hm
    refine GS.skip ?_
    exact GS.rs (D (d == 2) hm)
   ·replace hm := br_f G hm
    refine GS.seq ?_
    refine GS.ez [] [(25,.bool (d == 3))] [] ?_
    refine GS.cd (d == 3) (fun H => ?_) (fun H => ?_)
    ·replace hm := br_t H hm
     refine GS.skip ?_
     exact GS.rs (D (d == 3) hm)
    ·replace hm := br_f H hm
     refine GS.ez [24] [(25,.bool (d == 4))] [] ?_
     exact GS.rs (D (d == 4) hm)
  ·rintro v hm
   replace hm := (V _).symm.trans hm
   try dsimp only at hm
   refine GS.cd v (fun J => ?_) (fun J => ?_)
   ·replace hm := br_t J hm
    refine GS.skip ?_
    refine GS.inBlock ?_
    refine GS.seq ?_
    refine GS.block ?_
    refine GS.seq ?_
    refine bnd_elim hm (fun C af hm => ?_)
    refine GS.eg [25] [(29,.bool (!C))] [] [] [(1,hL 6 0 0),(2,hC [] (.bool C))] [qE ((g 1).x),⟨(w_place_Good F f af).ok (es := []) trivial⟩] ?_
    refine GS.cd (!C) (fun K => ?_) (fun K => ?_)
    ·replace hm := br_t K hm
     refine GS.seq ?_
     refine GS.eg [3,5,6,7,29] [(4,vI 36)] [4,6,7] [] [] [] ?_
     have hy := Option.some.inj hm
     subst hy
     exact GS.rv [0] [] Tryz.func11 () []
    ·replace hm := br_f K hm
     refine GS.seq ?_
     refine GS.eg [29] [(34,.bool (decide ((c.length : Int) > 4096)))] [] [] [(1,hL 6 0 0)] [qE ((g 1).x)] ?_
     refine GS.cd (decide ((c.length : Int) > 4096)) (fun L => ?_) (fun L => ?_)
     ·replace hm := br_t L hm
      refine GS.seq ?_
      refine GS.eg [3,5,6,7,34] [(4,vI 27)] [4,6,7] [] [] [] ?_
      have hy := Option.some.inj hm
      subst hy
      exact GS.rv [0] [] Tryz.func11 () []
     ·replace hm := br_f L hm
      refine GS.seq ?_
      refine jn_elim hm (fun ag W hm => ?_)
      refine GS.cu (ι := Bool) (fun (z : Bool) => ag z = some y) [6,34] (fun (z : Bool) => [(39,.bool z)]) [] (fun (z : Bool) => []) ?_ ?_
      rotate_left
      ·intro Y
       refine br_elim hm (fun O hm => ?_) (fun O hm => ?_)
       ·skip
        refine GS.eg [6,34] [(39,.bool (!y3.2))] [] [] [(1,hL 6 0 0),(3,hP (.bool true))] [qE ((g 1).x),⟨bool_eq O⟩] ?_
        exact GS.rs (Y (!y3.2) hm)
       ·skip
        refine GS.eg [6,34] [(39,.bool false)] [] [] [(1,hL 6 0 0),(3,hP (.bool false))] [qE ((g 1).x),⟨bool_eq O⟩] ?_
        exact GS.rs (Y false hm)
      ·rintro z hm
       replace hm := (W _).symm.trans hm
       try dsimp only at hm
       refine GS.cd z (fun P => ?_) (fun P => ?_)
       ·replace hm := br_t P hm
        refine GS.seq ?_
        refine GS.eg [3,5,7,39] [(4,vI 2)] [4,6,7] [] [] [] ?_
        have hy := Option.some.inj hm
        subst hy
        exact GS.rv [0] [] Tryz.func11 () []
       ·replace hm := br_f P hm
        refine GS.seq ?_
        refine jn_elim hm (fun ah Z hm => ?_)
        refine GS.cu (ι := Bool) (fun (A : Bool) => ah A = some y) [5,39] (fun (A : Bool) => [(47,.bool A)]) [7] (fun (A : Bool) => []) ?_ ?_
        rotate_left
        ·intro aa
         refine br_elim hm (fun Q hm => ?_) (fun Q hm => ?_)
         ·skip
          refine GS.eg [5,39] [(47,.bool (!(S_api_Version.beq y3.1.Version a)))] [7] [] [(1,hL 6 0 0),(3,hP (.bool true)),(5,hL 7 0 0),(7,hL 6 0 0),(8,hA (.eq))] [qE ((g 1).x),⟨bool_eq Q⟩,qE ((m 7).x),qE ((g 1).x)] ?_
          exact GS.rs (aa (!(S_api_Version.beq y3.1.Version a)) hm)
         ·skip
          refine GS.eg [5,39] [(47,.bool false)] [7] [] [(1,hL 6 0 0),(3,hP (.bool false))] [qE ((g 1).x),⟨bool_eq Q⟩] ?_
          exact GS.rs (aa false hm)
        ·rintro A hm
         replace hm := (Z _).symm.trans hm
         try dsimp only at hm
         refine GS.cd A (fun R => ?_) (fun R => ?_)
         ·replace hm := br_t R hm
          refine GS.seq ?_
          refine GS.eg [3,7,47] [(4,vI 126)] [4,6] [] [] [] ?_
          have hy := Option.some.inj hm
          subst hy
          exact GS.rv [0] [] Tryz.func11 () []
         ·replace hm := br_f R hm
          refine GS.seq ?_
          refine jn_elim hm (fun ai ab hm => ?_)
          refine GS.cu (ι := Bool) (fun (B : Bool) => ai B = some y) [3,7,47] (fun (B : Bool) => [(58,.bool B)]) [4,6] (fun (B : Bool) => []) ?_ ?_
          rotate_left
          ·intro ac
           refine br_elim hm (fun T hm => ?_) (fun T hm => ?_)
           ·skip
            refine GS.eg [3,7,47] [(58,.bool n)] [4,6] [] [(1,hL 6 0 0),(3,hP (.bool true))] [qE ((g 1).x),⟨bool_eq T⟩] ?_
            exact GS.rs (ac n hm)
           ·skip
            refine GS.eg [3,7,47] [(58,.bool false)] [4,6] [] [(1,hL 6 0 0),(3,hP (.bool false))] [qE ((g 1).x),⟨bool_eq T⟩] ?_
            exact GS.rs (ac false hm)
          ·rintro B hm
           replace hm := (ab _).symm.trans hm
           try dsimp only at hm
           refine GS.cd B (fun U => ?_) (fun U => ?_)
           ·replace hm := br_t U hm
            refine GS.seq ?_
            refine GS.ez [58] [(4,vI 28)] [] ?_
            have hy := Option.some.inj hm
            subst hy
            exact GS.rv [0] [] Tryz.func11 () []
           ·replace hm := br_f U hm
            refine GS.skip ?_
            refine GS.inBlock ?_
            refine GS.seq ?_
            refine GS.ez [58] [(4,vI 0)] [] ?_
            have hy := Option.some.inj hm
            subst hy
            exact GS.rv [0] [] Tryz.func11 () []
   ·replace hm := br_f J hm
    refine GS.seq ?_
    refine GS.eg [3,5,6,7,25] [(4,vI 22)] [4,6,7] [] [] [] ?_
    have hy := Option.some.inj hm
    subst hy
    exact GS.rv [0] [] Tryz.func11 () []

theorem w_pglog_Head (F : Nat) (l : Int) (c : S_api_Version) (b : Option Addr) (k : Nat) (a : List S_api_Entry) (d : Option Addr) (i : Nat) (f : List S_api_Last) (e : Option Addr) (j : Nat) (g : List S_api_Item) {y : S_api_Version} (hm : m_pglog_Head F l c a f g = some y) : CallG Tryz.prog 30 #[.agg ((kc15 l c.Epoch c.N b a.length k d f.length i e g.length j)).toArray] (X := Unit) (fun (_ : Unit) => .agg #[vI y.Epoch,vI y.N]) [] [r31 b a,r94 d f,r91 e g] (fun (_ : Unit) => []) := by
 rw [m_pglog_Head] at hm
 refine GS.st Tryz.func30 Tryz.ntmps30 (fun w => ?_)
 refine GS.seq ?_
 refine GS.dg [0] (fun h => [(1,pA ((h 0).x) 0),(2,pA ((h 1).x) 0)]) [] (fun h => [(4,.cells ((h 0).x) 28 (kc15 l c.Epoch c.N b a.length k d f.length i e g.length j)),(5,.cells ((h 1).x) 23 [vI 0,vI 0])]) [(0,hN 4),(1,hN 5)] (fun h => []) (fun h => ?_)
 refine GS.seq ?_
 refine GS.seq ?_
 refine GS.eg [] [(3,vI (a.length : Int))] [] [] [(1,hL 4 0 0)] [qE ((h 0).x)] ?_
 refine GS.seq ?_
 refine GS.ez [] [(8,.bool (decide ((a.length : Int) > 0)))] [] ?_
 refine GS.cd (decide ((a.length : Int) > 0)) (fun h4 => ?_) (fun h4 => ?_)
 ·replace hm := br_t h4 hm
  refine GS.seq ?_
  refine grd_elim hm (fun g6 hm => ?_)
  refine grd_elim hm (fun g7 hm => ?_)
  refine GS.eg [1,3,8] [] [1,2,3,4] [(5,.cells ((h 1).x) 23 [vI (((a.getD (Int.toNat ((a.length : Int) - 1)) dS_api_Entry).Version).Epoch),vI (((a.getD (Int.toNat ((a.length : Int) - 1)) dS_api_Entry).Version).N)])] [(1,hL 4 0 0),(3,hP (vI ((a.length : Int) - 1))),(4,hA (.idx 1 (Int.toNat ((a.length : Int) - 1)))),(6,hR 1 (Int.toNat ((a.length : Int) - 1)) 0 [vI (((a.getD (Int.toNat ((a.length : Int) - 1)) dS_api_Entry).Version).Epoch),vI (((a.getD (Int.toNat ((a.length : Int) - 1)) dS_api_Entry).Version).N),.bool ((a.getD (Int.toNat ((a.length : Int) - 1)) dS_api_Entry).Remove),vI ((a.getD (Int.toNat ((a.length : Int) - 1)) dS_api_Entry).Errno),.string ((a.getD (Int.toNat ((a.length : Int) - 1)) dS_api_Entry).Name),vI ((a.getD (Int.toNat ((a.length : Int) - 1)) dS_api_Entry).Client),vI ((a.getD (Int.toNat ((a.length : Int) - 1)) dS_api_Entry).Number)]),(7,hS 5)] [qE ((h 0).x),⟨(I64.w g6 : oW ((a.length : Int) - 1))⟩,qE b,⟨(mlen S_api_Entry.row a : a.length = (List.map S_api_Entry.row a).length)⟩,⟨g7.eq⟩,⟨g7.2⟩,qE (blk b),qE (offs b + (Int.toNat ((a.length : Int) - 1)) * 7),⟨(map_at S_api_Entry.row dS_api_Entry g7.2 : (List.map S_api_Entry.row a)[(Int.toNat ((a.length : Int) - 1))]? = some [vI (((a.getD (Int.toNat ((a.length : Int) - 1)) dS_api_Entry).Version).Epoch),vI (((a.getD (Int.toNat ((a.length : Int) - 1)) dS_api_Entry).Version).N),.bool ((a.getD (Int.toNat ((a.length : Int) - 1)) dS_api_Entry).Remove),vI ((a.getD (Int.toNat ((a.length : Int) - 1)) dS_api_Entry).Errno),.string ((a.getD (Int.toNat ((a.length : Int) - 1)) dS_api_Entry).Name),vI ((a.getD (Int.toNat ((a.length : Int) - 1)) dS_api_Entry).Client),vI ((a.getD (Int.toNat ((a.length : Int) - 1)) dS_api_Entry).Number)])⟩,qE ((h 1).x),qE true] ?_
  have hy := Option.some.inj hm
  subst hy
  exact GS.rv [5] [qE ((h 1).x)] Tryz.func30 () []
 ·replace hm := br_f h4 hm
  refine GS.skip ?_
  refine GS.seq ?_
  refine GS.eg [1,3,8] [] [1,2,3,4] [(5,.cells ((h 1).x) 23 [vI c.Epoch,vI c.N])] [(1,hL 4 0 0),(2,hS 5)] [qE ((h 0).x),qE ((h 1).x),qE true] ?_
  have hy := Option.some.inj hm
  subst hy
  exact GS.rv [5] [qE ((h 1).x)] Tryz.func30 () []

theorem w_primary_Next (F : Nat) (k : Int) (f : S_api_Version) (e : Option Addr) (j : Nat) (g : List S_api_Entry) (a : Option Addr) (h : Nat) (c : List S_api_Last) (b : Option Addr) (i : Nat) (d : List S_api_Item) (a1 : Int) {y : S_api_Version} (hm : m_primary_Next F k f g c d a1 = some y) : CallG Tryz.prog 13 #[.agg ((kc15 k f.Epoch f.N e g.length j a c.length h b d.length i)).toArray,vI a1] (X := Unit) (fun (_ : Unit) => .agg #[vI y.Epoch,vI y.N]) [] [r31 e g,r94 a c,r91 b d] (fun (_ : Unit) => []) := by
 rw [m_primary_Next] at hm
 refine GS.st Tryz.func13 Tryz.ntmps13 (fun w => ?_)
 refine GS.seq ?_
 refine GS.dg [0] (fun l => [(2,pA ((l 0).x) 0),(4,pA ((l 1).x) 0)]) [] (fun l => [(4,.cells ((l 0).x) 28 (kc15 k f.Epoch f.N e g.length j a c.length h b d.length i)),(5,.cells ((l 1).x) 23 [vI 0,vI 0])]) [(0,hN 4),(1,hN 5)] (fun l => []) (fun l => ?_)
 refine GS.seq ?_
 refine bnd_elim hm (fun y3 e4 hm => ?_)
 refine grd_elim hm (fun g5 hm => ?_)
 refine GS.eg [1,2] [] [1,2,3,4] [(5,.cells ((l 1).x) 23 [vI a1,vI (y3.N + 1)])] [(1,hL 4 0 0),(2,hC [1,2,3] (.agg #[vI y3.Epoch,vI y3.N])),(4,hP (vI (y3.N + 1))),(6,hS 5)] [qE ((l 0).x),⟨(w_pglog_Head F k f e j g a h c b i d e4).ok (es := [some (r31 e g),some (r94 a c),some (r91 b d)]) ⟨(.inl ⟨_,mm0,Cov.refl _⟩),(.inl ⟨_,mm1,Cov.refl _⟩),(.inl ⟨_,mm2,Cov.refl _⟩),trivial⟩⟩,⟨(I64.w g5 : oW (y3.N + 1))⟩,qE ((l 1).x),qE true] ?_
 have hy := Option.some.inj hm
 subst hy
 exact GS.rv [5] [qE ((l 1).x)] Tryz.func13 () []

theorem w_slices_Clone___int_int_ (F : Nat) (b : Option Addr) (c : Nat) {y : Unit} (hm : m_slices_Clone___int_int_ F = some y) : CallG Tryz.prog 50 #[.slice b 1 c] (X := Option Addr × Nat) (fun ⟨x0,x1⟩ => .slice x0 1 x1) [] [.rd b 1 [[vI 1]]] (fun ⟨x0,x1⟩ => [.osl x0 x1 3 1 [[vI 1]]]) := by
 rw [m_slices_Clone___int_int_] at hm
 refine GS.st Tryz.func50 Tryz.ntmps50 (fun w => ?_)
 refine GS.seq ?_
 refine GS.ez [] [] [] ?_
 refine GS.seq ?_
 refine GS.seq ?_
 refine GS.kn (p := b.isNone = false) 1 (.rd b 1 [[vI 1]]) (fun w hw => ne_rd hw) (fun k2 => ?_)
 refine GS.eg [] [(4,.bool false)] [] [] [(1,{ act := .nilq,sp := some (.bool false) })] [⟨bool_eq k2⟩] ?_
 refine GS.cF ?_
 refine GS.skip ?_
 refine GS.seq ?_
 refine GS.dg [0,4] (fun a => [(2,.slice ((a 2).ob) 1 ((a 2).cap))]) [1] (fun a => [(2,.osl ((a 2).ob) ((a 2).cap) 3 1 (([] : List (List Value)) ++ ([[vI 1]] : List (List Value))))]) [(0,hK (.new (.row 0 1)) 2),(2,{ act := .app (some 1),key := some 2,spf := some (fun f => .slice (f.ob) 1 (f.cap)) })] (fun a => [qE b,qE (([[vI 1]] : List (List Value)).length),qE (some (Addr.mk (a 0).x 0 none)),qE 0,qE (([] : List (List Value)).length),⟨((show (0 + 1) * (8 + 1) ≤ 70368744177664 by decide) : (([] : List (List Value)).length + ([[vI 1]] : List (List Value)).length) * (8 + 1) ≤ 70368744177664)⟩,qE true,qE ((.slice ((a 2).ob) (0 + ([[vI 1]] : List (List Value)).length) ((a 2).cap)) : Value)]) (fun a => ?_)
 refine GS.ce 2 (fun rr : List (List Value) => .osl ((a 2).ob) ((a 2).cap) 3 1 rr) (show ([] : List (List Value)) ++ ([[vI 1]] : List (List Value)) = ([[vI 1]] : List (List Value)) from rfl) ?_
 have hy := Option.some.inj hm
 subst hy
 exact GS.rv [0] [] Tryz.func50 ⟨(a 2).ob,(a 2).cap⟩ [2]

theorem w_digest_New (F : Nat) {y : S_digest_Engine} (hm : m_digest_New F = some y) : CallG Tryz.prog 88 #[] (X := Nat) (fun (x0 : Nat) => pA x0 0) [] [] (fun (x0 : Nat) => [.cells x0 190 (([.int .u32 y.once.done.v,.int .i32 y.once.m.mu.state,.int .u32 y.once.m.mu.sema] : List Value) ++ (aU32 y.table ++ (([vI y.calls.v] : List Value))))]) := by
 rw [m_digest_New] at hm
 refine GS.st Tryz.func88 Tryz.ntmps88 (fun w => ?_)
 refine GS.seq ?_
 refine GS.ez [] [] [] ?_
 refine GS.seq ?_
 refine GS.dg [] (fun a => [(0,pA ((a 1).x) 0)]) [] (fun a => [(1,.cells ((a 1).x) 190 (([.int .u32 0,.int .i32 0,.int .u32 0] : List Value) ++ (aU32 (List.replicate 256 0) ++ (([vI 0] : List Value)))))]) [(1,hN 1)] (fun a => []) (fun a => ?_)
 have hy := Option.some.inj hm
 subst hy
 exact GS.rv [0] [] Tryz.func88 ((a 1).x) [1]

theorem w___digest_Engine__make (F o : Nat) (a0 : S_digest_Engine) {y : S_digest_Engine} (hm : m___digest_Engine__make F a0 = some y) : CallG Tryz.prog 111 #[pA o 0] (X := Unit) (fun (_ : Unit) => .tuple #[]) [.cells o 190 (([.int .u32 a0.once.done.v,.int .i32 a0.once.m.mu.state,.int .u32 a0.once.m.mu.sema] : List Value) ++ (aU32 a0.table ++ (([vI a0.calls.v] : List Value))))] [] (fun (_ : Unit) => [.cells o 190 (([.int .u32 y.once.done.v,.int .i32 y.once.m.mu.state,.int .u32 y.once.m.mu.sema] : List Value) ++ (aU32 y.table ++ (([vI y.calls.v] : List Value))))]) := by
 rw [m___digest_Engine__make] at hm
 refine GS.st Tryz.func111 Tryz.ntmps111 (fun w => ?_)
 refine GS.seq ?_
 refine GS.ez [] [(4,vI 0)] [] ?_
 refine GS.block ?_
 refine GS.loop ?_
 refine grd_elim hm (fun K hm => ?_)
 refine loopC_elim hm (fun st169 fn170 hst171 hfn172 hm => ?_)
 refine GS.li (ι := Nat × Nat × List Int) (fun ⟨q,g,n⟩ => ((256) - (g : Int) : Int).toNat = q ∧ loopC st169 fn170 q g n = some y) (fun ⟨q,g,n⟩ => q) [] (fun ⟨q,g,n⟩ => [(4,vI (g : Int))]) [] (fun ⟨q,g,n⟩ => [(1,.cells o 190 (([.int .u32 a0.once.done.v,.int .i32 a0.once.m.mu.state,.int .u32 a0.once.m.mu.sema] : List Value) ++ (aU32 n ++ (([vI a0.calls.v] : List Value)))))]) ?_ ⟨(Int.toNat (256 - (0 : Int))),0,a0.table⟩ ⟨rfl,hm⟩
 rintro ⟨q,g,n⟩ ⟨B,hm⟩ J
 cases q with
 | zero =>
  replace hm := (hfn172 _ _).symm.trans hm
  try dsimp only at hm
  refine GS.seq ?_
  refine GS.ez [] [(5,.bool (decide ((g : Int) < 256)))] [] ?_
  refine GS.seq ?_
  refine GS.cd (decide ((g : Int) < 256)) (fun N => absb N (cnt0 B)) (fun _ => ?_)
  refine GS.exit rfl ?_
  have hy := Option.some.inj hm
  subst hy
  refine GS.end_ (fn := Tryz.f111) [] [] [] rfl Tryz.func111 (by kernel_rfl) trivial (fun w' hs => ?_)
  exact ⟨(),rfl,hs.turnedG (ks := [1]) rfl rfl⟩
 | succ q =>
  replace hm := (hst171 _ _ _).symm.trans hm
  try dsimp only at hm
  refine GS.seq ?_
  refine GS.ez [] [(5,.bool (decide ((g : Int) < 256)))] [] ?_
  refine GS.seq ?_
  refine GS.cd (decide ((g : Int) < 256)) (fun _ => ?_) (fun O => absb (cnt1 B) O)
  refine GS.skip ?_
  refine GS.seq ?_
  refine GS.block ?_
  refine GS.seq ?_
  refine GS.ez [5] [(2,vI (g : Int))] [] ?_
  refine GS.seq ?_
  refine GS.ez [] [(3,.int .u32 (IntKind.u32.wrap (g : Int)))] [] ?_
  refine GS.seq ?_
  refine GS.seq ?_
  refine GS.ez [] [(9,vI 0)] [] ?_
  refine GS.block ?_
  refine GS.loop ?_
  refine grd_elim hm (fun G hm => ?_)
  refine loopC_elim hm (fun st156 fn157 hst158 hfn159 hm => ?_)
  refine GS.li (ι := Nat × Int × Nat) (fun ⟨p,l,h⟩ => ((8) - (h : Int) : Int).toNat = p ∧ loopC st156 fn157 p h l = some y) (fun ⟨p,l,h⟩ => p) [] (fun ⟨p,l,h⟩ => [(3,.int .u32 l),(9,vI (h : Int))]) [] (fun ⟨p,l,h⟩ => []) ?_ ⟨(Int.toNat (8 - (0 : Int))),(IntKind.u32.wrap (g : Int)),0⟩ ⟨rfl,hm⟩
  rintro ⟨p,l,h⟩ ⟨r,hm⟩ C
  cases p with
  | zero =>
   replace hm := (hfn159 _ _).symm.trans hm
   try dsimp only at hm
   refine GS.seq ?_
   refine GS.ez [] [(10,.bool (decide ((h : Int) < 8)))] [] ?_
   refine GS.seq ?_
   refine GS.cd (decide ((h : Int) < 8)) (fun Q => absb Q (cnt0 r)) (fun _ => ?_)
   refine GS.exit rfl ?_
   refine grd_elim hm (fun T hm => ?_)
   refine grd_elim hm (fun H hm => ?_)
   refine GS.eg [2,3,9,10] [] [] [(1,.cells o 190 (splice (([.int .u32 a0.once.done.v,.int .i32 a0.once.m.mu.state,.int .u32 a0.once.m.mu.sema] : List Value) ++ (aU32 n ++ (([vI a0.calls.v] : List Value)))) (3 + g * 1) ((.int .u32 l) : Value).cells.toList))] [(5,hA (.arr g)),(6,hK (.storeC) 1)] [qE (g : Int),⟨T⟩,qE o,qE (((.int .u32 l) : Value).cells.toList.length),⟨((by have hh := H; first | simp [aU32_len]; omega) : 3 + g * 1 + 1 ≤ (([.int .u32 a0.once.done.v,.int .i32 a0.once.m.mu.state,.int .u32 a0.once.m.mu.sema] : List Value) ++ (aU32 n ++ (([vI a0.calls.v] : List Value)))).length)⟩,qE true] ?_
   refine GS.ce 1 (fun rr : List Value => .cells o 190 rr) (show (splice (([.int .u32 a0.once.done.v,.int .i32 a0.once.m.mu.state,.int .u32 a0.once.m.mu.sema] : List Value) ++ (aU32 n ++ (([vI a0.calls.v] : List Value)))) (3 + g * 1) ((.int .u32 l) : Value).cells.toList : List Value) = ([.int .u32 a0.once.done.v,.int .i32 a0.once.m.mu.state,.int .u32 a0.once.m.mu.sema] : List Value) ++ (aU32 (n.set g l) ++ (([vI a0.calls.v] : List Value))) from splice_aU322 (pre := ([.int .u32 a0.once.done.v,.int .i32 a0.once.m.mu.state,.int .u32 a0.once.m.mu.sema] : List Value)) (m := 3) rfl H (by omega)) ?_
   refine GS.inBlock ?_
   refine GS.eg [] [(4,vI ((g + 1 : Nat) : Int))] [] [] [(0,hP (vI ((g + 1 : Nat) : Int)))] [⟨(natwB (cnt1 B) K : ((vI (IntKind.i64.wrap ((g : Int) + 1))) : Value) = vI ((g + 1 : Nat) : Int))⟩] ?_
   refine GS.inLoop ?_
   exact GS.rs (J ⟨q,g + 1,(n.set g l)⟩ ⟨cntN B,hm⟩ (Nat.lt_succ_self _))
  | succ p =>
   replace hm := (hst158 _ _ _).symm.trans hm
   try dsimp only at hm
   refine GS.seq ?_
   refine GS.ez [] [(10,.bool (decide ((h : Int) < 8)))] [] ?_
   refine GS.seq ?_
   refine GS.cd (decide ((h : Int) < 8)) (fun _ => ?_) (fun U => absb (cnt1 r) U)
   refine GS.skip ?_
   refine GS.seq ?_
   refine GS.block ?_
   refine GS.seq ?_
   refine GS.ez [10] [(13,.bool ((iand .u32 l 1) == 1))] [] ?_
   refine GS.cd ((iand .u32 l 1) == 1) (fun D => ?_) (fun D => ?_)
   ·replace hm := br_t D hm
    refine GS.ez [13] [(3,.int .u32 (ixor .u32 (Int.fdiv l (2 ^ 1)) 2197175160))] [] ?_
    refine GS.inBlock ?_
    refine GS.eg [] [(9,vI ((h + 1 : Nat) : Int))] [] [] [(0,hP (vI ((h + 1 : Nat) : Int)))] [⟨(natwB (cnt1 r) G : ((vI (IntKind.i64.wrap ((h : Int) + 1))) : Value) = vI ((h + 1 : Nat) : Int))⟩] ?_
    refine GS.inLoop ?_
    exact GS.rs (C ⟨p,(ixor .u32 (Int.fdiv l (2 ^ 1)) 2197175160),h + 1⟩ ⟨cntN r,hm⟩ (Nat.lt_succ_self _))
   ·replace hm := br_f D hm
    refine GS.ez [13] [(3,.int .u32 (Int.fdiv l (2 ^ 1)))] [] ?_
    refine GS.inBlock ?_
    refine GS.eg [] [(9,vI ((h + 1 : Nat) : Int))] [] [] [(0,hP (vI ((h + 1 : Nat) : Int)))] [⟨(natwB (cnt1 r) G : ((vI (IntKind.i64.wrap ((h : Int) + 1))) : Value) = vI ((h + 1 : Nat) : Int))⟩] ?_
    refine GS.inLoop ?_
    exact GS.rs (C ⟨p,(Int.fdiv l (2 ^ 1)),h + 1⟩ ⟨cntN r,hm⟩ (Nat.lt_succ_self _))

theorem disable (w : World) : (callFunc 129 #[]).run Tryz.prog w = .ok (.value (.tuple #[])) w := run_call_mark0 Tryz.func129 (by kernel_rfl) (by kernel_rfl) (by kernel_rfl) .disable (by kernel_rfl) w
theorem enable (w : World) : (callFunc 131 #[]).run Tryz.prog w = .ok (.value (.tuple #[])) w := run_call_mark0 Tryz.func131 (by kernel_rfl) (by kernel_rfl) (by kernel_rfl) .enable (by kernel_rfl) w
theorem acquire (a : Addr) (w : World) : (callFunc 132 #[.pointer (some a)]).run Tryz.prog w = .ok (.value (.tuple #[])) w := run_call_marked Tryz.func132 (by kernel_rfl) (by kernel_rfl) (by kernel_rfl) .acquire (by kernel_rfl) a w
theorem releaseMerge (a : Addr) (w : World) : (callFunc 134 #[.pointer (some a)]).run Tryz.prog w = .ok (.value (.tuple #[])) w := run_call_marked Tryz.func134 (by kernel_rfl) (by kernel_rfl) (by kernel_rfl) .releaseMerge (by kernel_rfl) a w

theorem store_deferred (a : Addr) (x : Value) (u : FrameMode) (w : World) (hc : w.cell? a = some x) (hz : w.frozen? a = false) :
  CallsD Tryz.prog 124 #[.pointer (some a),.bool true] u w fun e u' w' => u' = u ∧ (e = .returned (.tuple #[]) ∧ w' = w.drew.setCell a (.int .u32 1)) := by
 have hc' : w.drew.cell? a = some x := by go_simp
 have hz' : w.drew.frozen? a = false := by go_simp
 have hst := run_call_store (P := Tryz.prog) Tryz.func127 (by kernel_rfl) (by kernel_rfl) (by kernel_rfl) (by kernel_rfl) (k := .u32) (y := 1) hc' hz'
 go_enter_d Tryz.func124,Tryz.ntmps124
 go_wp2
 go_region_calls
 all_goals (go_end0; exact ⟨rfl,rfl⟩)

theorem unlock_deferred (a : Addr) (u : FrameMode) (w : World) (hc : w.cell? a = some (.int .i32 1)) (hz : w.frozen? a = false) :
  CallsD Tryz.prog 123 #[.pointer (some a)] u w fun e u' w' => u' = u ∧ (e = .returned (.tuple #[]) ∧ w' = w.setCell a (.int .i32 0)) := by
 have hd := disable
 have he := enable
 have hr := releaseMerge
 have hadd := run_call_add (P := Tryz.prog) Tryz.func135 (by kernel_rfl) (by kernel_rfl) (by kernel_rfl) .i32 (by kernel_rfl) (y := -1) (s := 0) hc hz (by simp [go_sem]; rfl)
 have hcv := run_convert_to_unsafe (P := Tryz.prog) (src := 210) (dst := 214) Tryz.underlying210 Tryz.underlying214 (by kernel_rfl) hc
 go_enter_d Tryz.func123,Tryz.ntmps123
 go_wp2
 go_end0
 go_wp2
 go_end0
 exact ⟨rfl,rfl⟩

theorem lock_free (a : Addr) (w : World) (hc : w.cell? a = some (.int .i32 0)) (hz : w.frozen? a = false) :
  Calls Tryz.prog 122 #[.pointer (some a)] w fun e w' => e = .returned (.tuple #[]) ∧ w' = w.setCell a (.int .i32 1) := by
 have hd := disable
 have he := enable
 have ha := acquire
 have hcas := run_call_cas_hit (P := Tryz.prog) Tryz.func130 (by kernel_rfl) (by kernel_rfl) (by kernel_rfl) .i32 (by kernel_rfl) (y := 1) hc hz
 have hc' : (w.setCell a (.int .i32 1)).cell? a = some (.int .i32 1) := World.cell?_setCell_same w a _ hc
 have hcv := run_convert_to_unsafe (P := Tryz.prog) (src := 210) (dst := 214) Tryz.underlying210 Tryz.underlying214 (by kernel_rfl) hc'
 go_enter Tryz.func122,Tryz.ntmps122
 go_wp2
 first | go_end0 | (simp only [Exit.inBlock,Exit.then]; refine bodyPost_ret (results_none rfl _ _ _) rfl ?_) | refine bodyPost_ret (results_none rfl _ _ _) rfl ?_
 go_wp2
 go_end0
 exact ⟨rfl,rfl⟩

set_option maxRecDepth 100000 in
set_option maxHeartbeats 1600000 in
/-- '(*sync.Once).doSlow': the lock is taken,the function is called,'done' is stored,the lock is let go. -/
theorem slow_any (b : Nat) (R : World → Prop) (w : World)
  (h0 : w.cell? ⟨b,0,none⟩ = some (.int .u32 0)) (h1 : w.cell? ⟨b,0 + 1,none⟩ = some (.int .i32 0)) (f0 : w.frozen? ⟨b,0,none⟩ = false) (f1 : w.frozen? ⟨b,0 + 1,none⟩ = false)
  (hf : Calls Tryz.prog 111 #[pA b 0] (w.setCell ⟨b,0 + 1,none⟩ (.int .i32 1)) fun e w' => e = .returned (.tuple #[]) ∧ R w')
  (hR : ∀ w',R w' → w'.cell? ⟨b,0,none⟩ = some (.int .u32 0) ∧ w'.cell? ⟨b,0 + 1,none⟩ = some (.int .i32 1) ∧ w'.frozen? ⟨b,0,none⟩ = false ∧ w'.frozen? ⟨b,0 + 1,none⟩ = false) :
  Calls Tryz.prog 120 #[pA b 0,.func (.func 111) #[pA b 0] #[]] w fun e w' => e = .returned (.tuple #[]) ∧
   ∃ w1,R w1 ∧ w' = (w1.drew.setCell ⟨b,0,none⟩ (.int .u32 1)).setCell ⟨b,0 + 1,none⟩ (.int .i32 0) := by
 have hl := run_call_load (P := Tryz.prog) Tryz.func121 (by kernel_rfl) (by kernel_rfl) (by kernel_rfl) .u32 (by kernel_rfl) (w := w.setCell ⟨b,0 + 1,none⟩ (.int .i32 1)) (a := ⟨b,0,none⟩) (x := 0) ((World.cell?_setCell_other _ ⟨b,0 + 1,none⟩ ⟨b,0,none⟩ _ (by simp)).trans h0)
 have hnot : ∀ (x : Bool) (w : World),(Op.unary .not (.bool x)).run Tryz.prog w = .ok (.bool (!x)) w := fun _ _ => rfl
 go_enter_defers Tryz.func120,Tryz.ntmps120
 go_wp2_with (first | (go_at_call 122; refine (lock_free ⟨b,0 + 1,none⟩ _ h1 f1).mono ?_; rintro e w' ⟨rfl,rfl⟩) | (go_at_call 111; refine hf.mono ?_; rintro e w1 ⟨rfl,hw1⟩; obtain ⟨r0,r1,z0,z1⟩ := hR _ hw1) | (go_at_call 119; go_in))
 go_wp2
 refine leaves_cons (f := 124) (args := #[pA b 0,.bool true]) (by simp) (by simp [go_sem]) ?_
 refine (store_deferred ⟨b,0,none⟩ (.int .u32 0) .returning _ r0 z0).mono ?_
 rintro e u' w'' ⟨rfl,rfl,rfl⟩
 refine leaves_cons (f := 123) (args := #[.pointer (some ⟨b,0 + 1,none⟩)]) (by simp [settle]) (by simp [go_sem]) ?_
 refine (unlock_deferred ⟨b,0 + 1,none⟩ _ _ ?_ (by simp [z1])).mono ?_
 ·refine (World.cell?_setCell_other _ ⟨b,0,none⟩ ⟨b,0 + 1,none⟩ _ (by simp)).trans ?_
  rw [World.cell?_drew]
  exact r1
 rintro e u' w'' ⟨rfl,rfl,rfl⟩
 simp [Leaves,settle,results,Tryz.results120]
 exact ⟨_,hw1,rfl⟩

set_option maxRecDepth 100000 in
set_option maxHeartbeats 1600000 in
theorem do_first (b : Nat) (R : World → Prop) (w : World)
  (h0 : w.cell? ⟨b,0,none⟩ = some (.int .u32 0)) (h1 : w.cell? ⟨b,0 + 1,none⟩ = some (.int .i32 0)) (f0 : w.frozen? ⟨b,0,none⟩ = false) (f1 : w.frozen? ⟨b,0 + 1,none⟩ = false)
  (hf : Calls Tryz.prog 111 #[pA b 0] (w.setCell ⟨b,0 + 1,none⟩ (.int .i32 1)) fun e w' => e = .returned (.tuple #[]) ∧ R w')
  (hR : ∀ w',R w' → w'.cell? ⟨b,0,none⟩ = some (.int .u32 0) ∧ w'.cell? ⟨b,0 + 1,none⟩ = some (.int .i32 1) ∧ w'.frozen? ⟨b,0,none⟩ = false ∧ w'.frozen? ⟨b,0 + 1,none⟩ = false) :
  Calls Tryz.prog 110 #[pA b 0,.func (.func 111) #[pA b 0] #[]] w fun e w' => e = .returned (.tuple #[]) ∧
   ∃ w1,R w1 ∧ w' = (w1.drew.setCell ⟨b,0,none⟩ (.int .u32 1)).setCell ⟨b,0 + 1,none⟩ (.int .i32 0) := by
 have hl := run_call_load (P := Tryz.prog) Tryz.func121 (by kernel_rfl) (by kernel_rfl) (by kernel_rfl) .u32 (by kernel_rfl) h0
 have hnot : ∀ (x : Bool) (w : World),(Op.unary .not (.bool x)).run Tryz.prog w = .ok (.bool (!x)) w := fun _ _ => rfl
 go_enter Tryz.func110,Tryz.ntmps110
 go_wp2_with (first | (go_at_call 120; refine (slow_any b R _ h0 h1 f0 f1 hf hR).mono ?_; rintro e w' ⟨rfl,hw1⟩) | (go_at_call 119; go_in))
 go_end0
 exact ⟨rfl,hw1⟩

theorem do_done (a : Addr) (fv : Value) (w : World) (h0 : w.cell? a = some (.int .u32 1)) :
  Calls Tryz.prog 110 #[.pointer (some a),fv] w fun e w' => e = .returned (.tuple #[]) ∧ w' = w := by
 have hl := run_call_load (P := Tryz.prog) Tryz.func121 (by kernel_rfl) (by kernel_rfl) (by kernel_rfl) .u32 (by kernel_rfl) h0
 have hnot : ∀ (x : Bool) (w : World),(Op.unary .not (.bool x)).run Tryz.prog w = .ok (.bool (!x)) w := fun _ _ => rfl
 go_enter Tryz.func110,Tryz.ntmps110
 go_wp2
 go_end0
 exact ⟨rfl,rfl⟩

theorem do_ok (F b : Nat) (d st se : Int) (L : List Int) (c : Int) {y : List Int} (hm : m_once F d st se L c = some y) :
  CallG Tryz.prog 110 #[pA b 0,.func (.func 111) #[pA b 0] #[]] (fun _ : Unit => .tuple #[]) [.cells b 190 (ecells d st se L c)] [] (fun _ : Unit => [.cells b 190 (ecells 1 0 se y c)]) := by
 intro w hg
 have hE := good_one hg
 rw [m_once] at hm
 refine grd_elim hm (fun hst hm => ?_)
 refine grd_elim hm (fun hL hm => ?_)
 refine br_elim hm (fun hd hm => ?_) (fun hd hm => ?_)
 ·have hd := beq_iff_eq.1 hd
  have hy := Option.some.inj hm
  subst hy hd hst
  exact (do_done ⟨b,0,none⟩ _ w (cells_cell hE 0)).mono fun e w' ⟨he,hw⟩ => ⟨(),he,by subst hw; exact turns_cells (Keep.refl _ _) hE⟩
 ·refine grd_elim hm (fun V hm => ?_)
  refine bnd_elim hm (fun z hz hm => ?_)
  refine grd_elim hm (fun hq hm => ?_)
  have hy := Option.some.inj hm
  subst hy V hst
  obtain ⟨q1,q2,q3,q4,q5⟩ := hq
  have s1 := cells_set hE 1 (.int .i32 1)
  have e1 : (ecells 0 0 se L c).set 1 (.int .i32 1) = ecells 0 1 se L c := rfl
  rw [e1] at s1
  have hgood : GoodG [.cells b 190 (ecells 0 1 se L c)] [] (w.setCell ⟨b,1,none⟩ (.int .i32 1)) := by
   refine ⟨fun e he => by rw [List.mem_singleton.1 he]; exact s1.1,fun e he => (by cases he),fun i j e e' hne hi hj => ?_,fun e _ e' he' => (by cases he')⟩
   have h1 := (List.getElem?_eq_some_iff.1 hi).1
   have h2 := (List.getElem?_eq_some_iff.1 hj).1
   simp at h1 h2
   omega
  have hmake := w___digest_Engine__make F b (S_digest_Engine.mk (S_sync_Once.mk S_sync_noCopy.mk (S_atomic_Bool.mk S_atomic_noCopy.mk 0) (S_sync_Mutex'.mk S_sync_noCopy.mk (S_sync_Mutex.mk 1 se))) L (S_atomic_Int64.mk S_atomic_noCopy.mk S_atomic_align64.mk c)) hz (w.setCell ⟨b,1,none⟩ (.int .i32 1)) hgood
  have hf : Calls Tryz.prog 111 #[pA b 0] (w.setCell ⟨b,0 + 1,none⟩ (.int .i32 1)) fun e w' => e = .returned (.tuple #[]) ∧ (Keep (fun k => k = b) w w' ∧ (Ent.cells b 190 (ecells 0 1 se z.table c)).ok w') := by
   refine hmake.mono fun e w' ⟨_,he,ht⟩ => ⟨he,?_,?_⟩
   ·refine keep_tr s1.2 (ht.keep.mono fun k _ ⟨e0,h0,hk⟩ => ?_)
    rw [List.mem_singleton.1 h0] at hk
    exact hk
   ·have := ht.ok _ (List.mem_singleton.2 rfl)
    rw [q1,q2,q3,q4] at this
    exact this
  refine (do_first b _ w (cells_cell hE 0) (cells_cell hE 1) (cells_frozen hE (i := 0) (by rw [ecells_len hL]; omega)) (cells_frozen hE (i := 1) (by rw [ecells_len hL]; omega)) hf (fun w' ⟨_,hok⟩ => ⟨cells_cell hok 0,cells_cell hok 1,cells_frozen hok (i := 0) (by rw [ecells_len q5]; omega),cells_frozen hok (i := 1) (by rw [ecells_len q5]; omega)⟩)).mono fun e w' ⟨he,w1,⟨hk,hok⟩,hw⟩ => ⟨(),he,?_⟩
  subst hw
  have t1 := cells_set (cells_drew hok) 0 (.int .u32 1)
  have t2 := cells_set t1.1 1 (.int .i32 0)
  exact turns_cells (keep_tr hk (keep_tr (keep_drew _ w1) (keep_tr t1.2 t2.2))) t2.1

theorem w___digest_Engine__Crc (F c : Nat) (a0 : S_digest_Engine) (b : Option Addr) (d : Nat) (a1 : List UInt8) {y : Int × S_digest_Engine} (hm : m___digest_Engine__Crc F a0 a1 = some y) : CallG Tryz.prog 89 #[pA c 0,.slice b a1.length d] (X := Unit) (fun (_ : Unit) => .int .u32 y.1) [.cells c 190 (([.int .u32 a0.once.done.v,.int .i32 a0.once.m.mu.state,.int .u32 a0.once.m.mu.sema] : List Value) ++ (aU32 a0.table ++ (([vI a0.calls.v] : List Value))))] [r5 b a1] (fun (_ : Unit) => [.cells c 190 (([.int .u32 y.2.once.done.v,.int .i32 y.2.once.m.mu.state,.int .u32 y.2.once.m.mu.sema] : List Value) ++ (aU32 y.2.table ++ (([vI y.2.calls.v] : List Value))))]) := by
 rw [m___digest_Engine__Crc] at hm
 refine GS.st Tryz.func89 Tryz.ntmps89 (fun w => ?_)
 refine GS.seq ?_
 refine GS.ez [] [] [] ?_
 refine GS.seq ?_
 refine GS.seq ?_
 refine GS.ez [] [(9,.bool false)] [] ?_
 refine GS.cF ?_
 refine GS.skip ?_
 refine GS.seq ?_
 refine grd_elim hm (fun g4 hm => ?_)
 refine GS.open_ ?_
 refine GR.eu 3 [9] [(12,pA c 259)] [] [] [] [] ?_
 refine GR.ch (add_ok c a0.once.done.v a0.once.m.mu.state a0.once.m.mu.sema a0.table a0.calls.v 1 g4) [1] [1] [12] [] trivial ?_
 rintro _
 refine GR.dm ?_
 refine GS.seq ?_
 refine bnd_elim hm (fun y7 e8 hm => ?_)
 refine GS.open_ ?_
 refine GR.eu 5 [] [(16,pA c 0),(18,.func (.func 111) #[pA c 0] #[])] [] [] [] [] ?_
 refine GR.ch (do_ok F c a0.once.done.v a0.once.m.mu.state a0.once.m.mu.sema a0.table (IntKind.i64.wrap (a0.calls.v + 1)) e8) [1] [1] [16,18] [] trivial ?_
 rintro _
 refine GR.dm ?_
 refine GS.seq ?_
 refine GS.ez [] [(5,.int .u32 4294967295)] [] ?_
 refine GS.seq ?_
 refine GS.seq ?_
 refine GS.ez [1] [(20,.slice b a1.length d),(21,vI (a1.length : Int)),(22,vI 0)] [] ?_
 refine GS.block ?_
 refine GS.loop ?_
 refine grd_elim hm (fun o hm => ?_)
 refine loopL_elim hm (fun st48 fn49 hst50 hfn51 hm => ?_)
 refine GS.li (ι := List UInt8 × Int × Nat) (fun ⟨f,e,a⟩ => a1.drop a = f ∧ loopL st48 fn49 f a e = some y) (fun ⟨f,e,a⟩ => f.length) [] (fun ⟨f,e,a⟩ => [(5,.int .u32 e),(22,vI (a : Int))]) [] (fun ⟨f,e,a⟩ => []) ?_ ⟨a1,4294967295,0⟩ ⟨List.drop_zero ..,hm⟩
 rintro ⟨f,e,a⟩ ⟨j,hm⟩ l
 cases f with
 | nil =>
  replace hm := (hfn51 _ _).symm.trans hm
  try dsimp only at hm
  refine GS.seq ?_
  refine GS.ez [] [(23,.bool (decide ((a : Int) < (a1.length : Int))))] [] ?_
  refine GS.seq ?_
  refine GS.cd (decide ((a : Int) < (a1.length : Int))) (fun p => absb p (drop_dec0 j)) (fun _ => ?_)
  refine GS.exit rfl ?_
  refine GS.seq ?_
  refine GS.eg [0,5,20,21,22,23] [(4,.int .u32 (ixor .u32 4294967295 e))] [2] [] [] [] ?_
  have hy := Option.some.inj hm
  subst hy
  exact GS.rv [0] [] Tryz.func89 () [1]
 | cons h f =>
  replace hm := (hst50 _ _ _ _).symm.trans hm
  try dsimp only at hm
  refine GS.seq ?_
  refine GS.ez [] [(23,.bool (decide ((a : Int) < (a1.length : Int))))] [] ?_
  refine GS.seq ?_
  refine GS.cd (decide ((a : Int) < (a1.length : Int))) (fun _ => ?_) (fun q => absb (drop_dec j) q)
  refine GS.skip ?_
  refine GS.seq ?_
  refine GS.block ?_
  refine GS.seq ?_
  refine GS.eg [23] [(7,.int .u8 (h.toNat : Int))] [] [] [(0,hA (.idx 2 a)),(1,hR 2 a 0 [.int .u8 (h.toNat : Int)])] [qE b,⟨(mlen rB a1 : a1.length = (List.map rB a1).length)⟩,qE (a : Int),⟨((drop_lt j) : a < a1.length)⟩,qE (blk b),qE (offs b + a * 1),⟨(map_drop rB j : (List.map rB a1)[a]? = some [.int .u8 (h.toNat : Int)])⟩] ?_
  refine grd_elim hm (fun n hm => ?_)
  refine grd_elim hm (fun r hm => ?_)
  refine GS.eg [7] [(5,.int .u32 (ixor .u32 (Int.fdiv e (2 ^ 8)) (y7.getD (Int.toNat (ixor .u8 (IntKind.u8.wrap e) (h.toNat : Int))) 0)))] [] [] [(9,hA (.arr (Int.toNat (ixor .u8 (IntKind.u8.wrap e) (h.toNat : Int))))),(10,hA (.loadC 1 [.int .u32 (y7.getD (Int.toNat (ixor .u8 (IntKind.u8.wrap e) (h.toNat : Int))) 0)]))] [⟨n.eq⟩,⟨n.2⟩,qE c,⟨(aU32_at2 (pre := ([.int .u32 1,.int .i32 0,.int .u32 a0.once.m.mu.sema] : List Value)) (m := 3) rfl r (by omega) : (([.int .u32 1,.int .i32 0,.int .u32 a0.once.m.mu.sema] : List Value) ++ (aU32 y7 ++ (([vI (IntKind.i64.wrap (a0.calls.v + 1))] : List Value))))[3 + (Int.toNat (ixor .u8 (IntKind.u8.wrap e) (h.toNat : Int))) * 1]? = some (.int .u32 (y7.getD (Int.toNat (ixor .u8 (IntKind.u8.wrap e) (h.toNat : Int))) 0)))⟩] ?_
  refine GS.inBlock ?_
  refine bnd_elim hm (fun k s hm => ?_)
  refine GS.ve 5 (fun vhole : Int => .int .u32 vhole) (Option.some.inj s) ?_
  refine GS.eg [] [(22,vI ((a + 1 : Nat) : Int))] [] [] [(0,hP (vI ((a + 1 : Nat) : Int)))] [⟨(natw (drop_lt j) o : ((vI (IntKind.i64.wrap ((a : Int) + 1))) : Value) = vI ((a + 1 : Nat) : Int))⟩] ?_
  refine GS.inLoop ?_
  exact GS.rs (l ⟨f,k,a + 1⟩ ⟨drop_next j,hm⟩ (Nat.lt_succ_self _))

theorem w_cmp_isNaN_int_ (F : Nat) (a0 : Int) {y : Bool} (hm : m_cmp_isNaN_int_ F a0 = some y) : CallG Tryz.prog 75 #[vI a0] (X := Unit) (fun (_ : Unit) => .bool y) [] [] (fun (_ : Unit) => []) := by
 rw [m_cmp_isNaN_int_] at hm
 refine GS.st Tryz.func75 Tryz.ntmps75 (fun w => ?_)
 refine GS.seq ?_
 refine GS.ez [] [] [] ?_
 refine GS.seq ?_
 refine GS.ez [0] [(2,.bool (a0 != a0))] [] ?_
 have hy := Option.some.inj hm
 subst hy
 exact GS.rv [0] [] Tryz.func75 () []

theorem w_cmp_Compare_int_ (F : Nat) (a0 a1 : Int) {y : Int} (hm : m_cmp_Compare_int_ F a0 a1 = some y) : CallG Tryz.prog 51 #[vI a0,vI a1] (X := Unit) (fun (_ : Unit) => vI y) [] [] (fun (_ : Unit) => []) := by
 rw [m_cmp_Compare_int_] at hm
 refine GS.st Tryz.func51 Tryz.ntmps51 (fun w => ?_)
 refine GS.seq ?_
 refine GS.ez [] [] [] ?_
 refine GS.seq ?_
 refine bnd_elim hm (fun y3 e4 hm => ?_)
 refine GS.eg [] [(5,.bool y3)] [] [] [(1,hC [] (.bool y3))] [⟨(w_cmp_isNaN_int_ F a0 e4).ok (es := []) trivial⟩] ?_
 refine GS.seq ?_
 refine bnd_elim hm (fun y6 e7 hm => ?_)
 refine GS.eg [] [(6,.bool y6)] [] [] [(1,hC [] (.bool y6))] [⟨(w_cmp_isNaN_int_ F a1 e7).ok (es := []) trivial⟩] ?_
 refine GS.seq ?_
 refine GS.seq ?_
 refine GS.ez [5] [(11,.bool y3)] [] ?_
 refine GS.cd y3 (fun h9 => ?_) (fun h9 => ?_)
 ·replace hm := br_t h9 hm
  refine GS.seq ?_
  refine GS.seq ?_
  refine GS.ez [0,1,6,11] [(12,.bool y6)] [] ?_
  refine GS.cd y6 (fun a => ?_) (fun a => ?_)
  ·replace hm := br_t a hm
   refine GS.seq ?_
   refine GS.ez [12] [(4,vI 0)] [] ?_
   have hy := Option.some.inj hm
   subst hy
   exact GS.rv [0] [] Tryz.func51 () []
  ·replace hm := br_f a hm
   refine GS.skip ?_
   refine GS.seq ?_
   refine GS.ez [12] [(4,vI (-1))] [] ?_
   have hy := Option.some.inj hm
   subst hy
   exact GS.rv [0] [] Tryz.func51 () []
 ·replace hm := br_f h9 hm
  refine GS.skip ?_
  refine GS.seq ?_
  refine GS.seq ?_
  refine GS.ez [6,11] [(13,.bool y6)] [] ?_
  refine GS.cd y6 (fun b => ?_) (fun b => ?_)
  ·replace hm := br_t b hm
   refine GS.seq ?_
   refine GS.ez [0,1,13] [(4,vI 1)] [] ?_
   have hy := Option.some.inj hm
   subst hy
   exact GS.rv [0] [] Tryz.func51 () []
  ·replace hm := br_f b hm
   refine GS.skip ?_
   refine GS.seq ?_
   refine GS.seq ?_
   refine GS.ez [13] [(16,.bool (decide (a0 < a1)))] [] ?_
   refine GS.cd (decide (a0 < a1)) (fun c => ?_) (fun c => ?_)
   ·replace hm := br_t c hm
    refine GS.seq ?_
    refine GS.ez [0,1,16] [(4,vI (-1))] [] ?_
    have hy := Option.some.inj hm
    subst hy
    exact GS.rv [0] [] Tryz.func51 () []
   ·replace hm := br_f c hm
    refine GS.skip ?_
    refine GS.seq ?_
    refine GS.seq ?_
    refine GS.ez [0,1,16] [(19,.bool (decide (a0 > a1)))] [] ?_
    refine GS.cd (decide (a0 > a1)) (fun d => ?_) (fun d => ?_)
    ·replace hm := br_t d hm
     refine GS.seq ?_
     refine GS.ez [19] [(4,vI 1)] [] ?_
     have hy := Option.some.inj hm
     subst hy
     exact GS.rv [0] [] Tryz.func51 () []
    ·replace hm := br_f d hm
     refine GS.skip ?_
     refine GS.seq ?_
     refine GS.ez [19] [(4,vI 0)] [] ?_
     have hy := Option.some.inj hm
     subst hy
     exact GS.rv [0] [] Tryz.func51 () []

theorem w_pglog_Cmp (F : Nat) (a0 a1 : S_api_Version) {y : Int} (hm : m_pglog_Cmp F a0 a1 = some y) : CallG Tryz.prog 31 #[.agg #[vI a0.Epoch,vI a0.N],.agg #[vI a1.Epoch,vI a1.N]] (X := Unit) (fun (_ : Unit) => vI y) [] [] (fun (_ : Unit) => []) := by
 rw [m_pglog_Cmp] at hm
 refine GS.st Tryz.func31 Tryz.ntmps31 (fun w => ?_)
 refine GS.seq ?_
 refine GS.dg [0,1] (fun a => [(2,pA ((a 0).x) 0),(3,pA ((a 1).x) 0)]) [] (fun a => [(1,.cells ((a 0).x) 23 [vI a0.Epoch,vI a0.N]),(2,.cells ((a 1).x) 23 [vI a1.Epoch,vI a1.N])]) [(0,hN 1),(1,hN 2)] (fun a => []) (fun a => ?_)
 refine GS.seq ?_
 refine GS.seq ?_
 refine bnd_elim hm (fun y3 e4 hm => ?_)
 refine GS.eg [] [(5,vI y3)] [] [] [(1,hL 1 0 0),(3,hL 2 0 0),(4,hC [] (vI y3))] [qE ((a 0).x),qE ((a 1).x),⟨(w_cmp_Compare_int_ F a0.Epoch a1.Epoch e4).ok (es := []) trivial⟩] ?_
 refine GS.seq ?_
 refine GS.ez [] [(12,.bool (y3 != 0))] [] ?_
 refine GS.cd (y3 != 0) (fun h6 => ?_) (fun h6 => ?_)
 ·replace hm := br_t h6 hm
  refine GS.seq ?_
  refine GS.eg [2,3,5,12] [(4,vI y3)] [1,2] [] [] [] ?_
  have hy := Option.some.inj hm
  subst hy
  exact GS.rv [0] [] Tryz.func31 () []
 ·replace hm := br_f h6 hm
  refine GS.skip ?_
  refine GS.seq ?_
  refine bnd_elim hm (fun y9 b hm => ?_)
  refine GS.eg [2,3,5,12] [(4,vI y9)] [1,2] [] [(1,hL 1 0 0),(3,hL 2 0 0),(4,hC [] (vI y9))] [qE ((a 0).x),qE ((a 1).x),⟨(w_cmp_Compare_int_ F a0.N a1.N b).ok (es := []) trivial⟩] ?_
  have hy := Option.some.inj hm
  subst hy
  exact GS.rv [0] [] Tryz.func31 () []

theorem w_pglog_Copy_2 (F : Nat) (l : Int) (e : S_api_Version) (m : Option Addr) (p : Nat) (c : List S_api_Entry) (g : Option Addr) (o : Nat) (a : List S_api_Last) (d : Option Addr) (k : Nat) (b : List S_api_Item) {y : Int × S_api_Version × List S_api_Entry × List S_api_Last × List S_api_Item} (hm : m_pglog_Copy_2 F l e c a b = some y) : CallG Tryz.prog 32 #[.agg ((kc15 l e.Epoch e.N m c.length p g a.length o d b.length k)).toArray] (X := Option Addr × Nat × Option Addr × Nat × Option Addr × Nat) (fun ⟨x0,x1,x2,x3,x4,x5⟩ => .agg ((kc15 y.1 y.2.1.Epoch y.2.1.N x0 y.2.2.1.length x1 x2 y.2.2.2.1.length x3 x4 y.2.2.2.2.length x5)).toArray) [] [r31 m c,r94 g a,r91 d b] (fun ⟨x0,x1,x2,x3,x4,x5⟩ => [o31 x0 x1 y.2.2.1,o94 x2 x3 y.2.2.2.1,o91 x4 x5 y.2.2.2.2]) := by
 rw [m_pglog_Copy_2] at hm
 refine GS.st Tryz.func32 Tryz.ntmps32 (fun w => ?_)
 refine GS.seq ?_
 refine GS.dg [0] (fun i => [(1,pA ((i 0).x) 0),(2,pA ((i 1).x) 0)]) [] (fun i => [(4,.cells ((i 0).x) 28 (kc15 l e.Epoch e.N m c.length p g a.length o d b.length k)),(5,.cells ((i 1).x) 28 (kc1))]) [(0,hN 4),(1,hN 5)] (fun i => []) (fun i => ?_)
 refine GS.seq ?_
 refine grd_elim hm (fun g3 hm => ?_)
 refine GS.dg [] (fun h => []) [1] (fun h => [(4,.cells ((i 0).x) 28 (kc15 l e.Epoch e.N ((h 2).ob) c.length ((h 2).cap) g a.length o d b.length k)),(6,.osl ((h 2).ob) ((h 2).cap) 31 7 (List.map S_api_Entry.row c))]) [(1,hL 4 0 0),(2,{ act := .app (some 1),key := some 6,spf := some (fun f => .slice (f.ob) c.length (f.cap)) }),(4,hS 4)] (fun h => [qE ((i 0).x),qE m,⟨(mlen S_api_Entry.row c : c.length = (List.map S_api_Entry.row c).length)⟩,qE 0,qE 0,⟨(appb0 g3 (mlen S_api_Entry.row c).symm : (List.map S_api_Entry.row c).length * (64 + 1) ≤ 70368744177664)⟩,⟨(slen (by rw [(mlen S_api_Entry.row c).symm,Nat.zero_add]) : ((.slice ((h 2).ob) (0 + (List.map S_api_Entry.row c).length) ((h 2).cap)) : Value) = .slice ((h 2).ob) c.length ((h 2).cap))⟩,qE ((i 0).x),qE true]) (fun h => ?_)
 refine GS.ce 6 (fun rr : List (List Value) => .osl ((h 2).ob) ((h 2).cap) 31 7 rr) (show List.map S_api_Entry.row c = List.map S_api_Entry.row c from rfl) ?_
 refine GS.seq ?_
 refine grd_elim hm (fun g5 hm => ?_)
 refine GS.dg [] (fun j => []) [2] (fun j => [(4,.cells ((i 0).x) 28 (kc15 l e.Epoch e.N ((h 2).ob) c.length ((h 2).cap) ((j 2).ob) a.length ((j 2).cap) d b.length k)),(7,.osl ((j 2).ob) ((j 2).cap) 94 5 (List.map S_api_Last.row a))]) [(1,hL 4 0 0),(2,{ act := .app (some 2),key := some 7,spf := some (fun f => .slice (f.ob) a.length (f.cap)) }),(4,hS 4)] (fun j => [qE ((i 0).x),qE g,⟨(mlen S_api_Last.row a : a.length = (List.map S_api_Last.row a).length)⟩,qE 0,qE 0,⟨(appb0 g5 (mlen S_api_Last.row a).symm : (List.map S_api_Last.row a).length * (40 + 1) ≤ 70368744177664)⟩,⟨(slen (by rw [(mlen S_api_Last.row a).symm,Nat.zero_add]) : ((.slice ((j 2).ob) (0 + (List.map S_api_Last.row a).length) ((j 2).cap)) : Value) = .slice ((j 2).ob) a.length ((j 2).cap))⟩,qE ((i 0).x),qE true]) (fun j => ?_)
 refine GS.ce 7 (fun rr : List (List Value) => .osl ((j 2).ob) ((j 2).cap) 94 5 rr) (show List.map S_api_Last.row a = List.map S_api_Last.row a from rfl) ?_
 refine GS.seq ?_
 refine grd_elim hm (fun g7 hm => ?_)
 refine GS.dg [] (fun n => []) [3] (fun n => [(4,.cells ((i 0).x) 28 (kc15 l e.Epoch e.N ((h 2).ob) c.length ((h 2).cap) ((j 2).ob) a.length ((j 2).cap) ((n 2).ob) b.length ((n 2).cap))),(8,.osl ((n 2).ob) ((n 2).cap) 91 4 (List.map S_api_Item.row b))]) [(1,hL 4 0 0),(2,{ act := .app (some 3),key := some 8,spf := some (fun f => .slice (f.ob) b.length (f.cap)) }),(4,hS 4)] (fun n => [qE ((i 0).x),qE d,⟨(mlen S_api_Item.row b : b.length = (List.map S_api_Item.row b).length)⟩,qE 0,qE 0,⟨(appb0 g7 (mlen S_api_Item.row b).symm : (List.map S_api_Item.row b).length * (40 + 1) ≤ 70368744177664)⟩,⟨(slen (by rw [(mlen S_api_Item.row b).symm,Nat.zero_add]) : ((.slice ((n 2).ob) (0 + (List.map S_api_Item.row b).length) ((n 2).cap)) : Value) = .slice ((n 2).ob) b.length ((n 2).cap))⟩,qE ((i 0).x),qE true]) (fun n => ?_)
 refine GS.ce 8 (fun rr : List (List Value) => .osl ((n 2).ob) ((n 2).cap) 91 4 rr) (show List.map S_api_Item.row b = List.map S_api_Item.row b from rfl) ?_
 refine GS.seq ?_
 refine GS.eg [1] [] [4] [(5,.cells ((i 1).x) 28 (kc15 l e.Epoch e.N ((h 2).ob) c.length ((h 2).cap) ((j 2).ob) a.length ((j 2).cap) ((n 2).ob) b.length ((n 2).cap)))] [(0,hL 4 0 0),(1,hS 5)] [qE ((i 0).x),qE ((i 1).x),qE true] ?_
 have hy := Option.some.inj hm
 subst hy
 exact GS.rv [5] [qE ((i 1).x)] Tryz.func32 ⟨(h 2).ob,(h 2).cap,(j 2).ob,(j 2).cap,(n 2).ob,(n 2).cap⟩ [6,7,8]

theorem w_pglog_lastClient (F : Nat) (a0 : S_api_Last) {y : Int} (hm : m_pglog_lastClient F a0 = some y) : CallG Tryz.prog 53 #[.agg ((kc17 a0.Client a0.Number a0.Errno a0.Version.Epoch a0.Version.N)).toArray] (X := Unit) (fun (_ : Unit) => vI y) [] [] (fun (_ : Unit) => []) := by
 rw [m_pglog_lastClient] at hm
 refine GS.st Tryz.func53 Tryz.ntmps53 (fun w => ?_)
 refine GS.seq ?_
 refine GS.dg [0] (fun a => [(1,pA ((a 0).x) 0)]) [] (fun a => [(1,.cells ((a 0).x) 94 (kc17 a0.Client a0.Number a0.Errno a0.Version.Epoch a0.Version.N))]) [(0,hN 1)] (fun a => []) (fun a => ?_)
 refine GS.seq ?_
 refine GS.eg [1] [(2,vI a0.Client)] [1] [] [(1,hL 1 0 0)] [qE ((a 0).x)] ?_
 have hy := Option.some.inj hm
 subst hy
 exact GS.rv [0] [] Tryz.func53 () []

theorem w_pglog_look_api_Last_int__1 (F : Nat) (a0 : S_api_Last) (a1 : Int) (a : Nat) {y : Int} (hm : m_pglog_look_api_Last_int__1 F a0 a1 = some y) : CallG Tryz.prog 77 #[.agg ((kc17 a0.Client a0.Number a0.Errno a0.Version.Epoch a0.Version.N)).toArray,vI a1,pA a 0] (X := Unit) (fun (_ : Unit) => vI y) [] [.rd (some ⟨a,0,none⟩) 1 [[.func (.func 53) #[] #[]]]] (fun (_ : Unit) => []) := by
 rw [m_pglog_look_api_Last_int__1] at hm
 refine GS.st Tryz.func77 Tryz.ntmps77 (fun w => ?_)
 refine GS.seq ?_
 refine GS.dg [0] (fun b => [(3,pA ((b 0).x) 0)]) [] (fun b => [(2,.cells ((b 0).x) 94 (kc17 a0.Client a0.Number a0.Errno a0.Version.Epoch a0.Version.N))]) [(0,hN 2)] (fun b => []) (fun b => ?_)
 refine GS.seq ?_
 refine bnd_elim hm (fun y3 e4 hm => ?_)
 refine bnd_elim hm (fun y5 e6 hm => ?_)
 refine GS.eg [1,2,3] [(5,vI y5)] [1,2] [] [(0,hR 1 0 0 [.func (.func 53) #[] #[]]),(1,hL 2 0 0),(2,hC [] (vI y3)),(4,hC [] (vI y5))] [qE a,qE (offs (some ⟨a,0,none⟩) + (0 * 1 + 0)),qE (some ([.func (.func 53) #[] #[]] : List Value)),qE ((b 0).x),⟨(w_pglog_lastClient F a0 e4).ok (es := []) trivial⟩,⟨(w_cmp_Compare_int_ F y3 a1 e6).ok (es := []) trivial⟩] ?_
 have hy := Option.some.inj hm
 subst hy
 exact GS.rv [0] [] Tryz.func77 () []

end Go.Proofs.YtjnbkhnebmlilaaGreat
