/-
  CHAPTER 18t: the functions do what their models say (11).
-/
import Derived.Test.YtjnbkhnebmlilaaGreatE18t
import Derived.Test.YtjnbkhnebmlilaaGreatW18ta
import Derived.Test.YtjnbkhnebmlilaaGreatW18tf
import Derived.Test.YtjnbkhnebmlilaaGreatW18th
import Derived.Test.YtjnbkhnebmlilaaGreatW18tj
set_option linter.unusedVariables false
set_option linter.unusedSimpArgs false
set_option maxRecDepth 100000
set_option maxHeartbeats 8000000
namespace Go.Proofs.YtjnbkhnebmlilaaGreat
open Go Go.RowKit Sx

theorem w_primary_Verdict_2 (F : Nat) (u : Int) (o : S_api_Version) (l : Option Addr) (s : Nat) (p : List S_api_Entry) (h : Option Addr) (q : Nat) (k : List S_api_Last) (i : Option Addr) (r : Nat) (j : List S_api_Item) (d : Int) (f : ByteArray) (b : Option Addr) (e : Nat) (c : List UInt8) (a : S_api_Version) {y : Int} (hm : m_primary_Verdict_2 F u o p k j d f c a = some y) : CallG Tryz.prog 11 #[.agg ((kc0 u o.Epoch o.N l p.length s h k.length q i j.length r)).toArray,.agg ((kc2 d f b c.length e a.Epoch a.N)).toArray] (X := Unit) (fun (_ : Unit) => vI y) [] [r31 l p,r94 h k,r91 i j,r5 b c] (fun (_ : Unit) => []) := by
  intro w hg
  rw [m_primary_Verdict_2] at hm
  refine GS.start (S := mayT [] [r31 l p,r94 h k,r91 i j,r5 b c]) (mem := [(1,r31 l p),(2,r94 h k),(3,r91 i j),(4,r5 b c)]) Tryz.func11 rfl Tryz.ntmps11 (Nat.le_of_ble_eq_true rfl) (hg.start rfl) ?_
  refine GS.conv (env' := [(0,.agg ((kc0 u o.Epoch o.N l p.length s h k.length q i j.length r)).toArray),(1,.agg ((kc2 d f b c.length e a.Epoch a.N)).toArray)]) rfl rfl ?_
  refine GS.seq ?_
  refine GS.tz (fun g => [(2,pA ((g 0).x) 0),(3,pA ((g 1).x) 0)]) (fun g => [(1,r31 l p),(2,r94 h k),(3,r91 i j),(4,r5 b c),(5,.cells ((g 0).x) 28 (kc0 u o.Epoch o.N l p.length s h k.length q i j.length r)),(6,.cells ((g 1).x) 34 (kc2 d f b c.length e a.Epoch a.N))]) [(0,{ act := .new .var,key := some 5 }),(1,{ act := .new .var,key := some 6 })] ?_
  intro g
  refine GS.seq ?_
  refine bnd_elim hm (fun y3 e4 hm => ?_)
  refine GS.tg (fun m => [(2,pA ((g 0).x) 0),(3,pA ((g 1).x) 0),(5,pA ((m 7).x) 0),(6,.bool y3.2)]) (fun m => [(1,r31 l p),(2,r94 h k),(3,r91 i j),(4,r5 b c),(5,.cells ((g 0).x) 28 (kc0 u o.Epoch o.N l p.length s h k.length q i j.length r)),(6,.cells ((g 1).x) 34 (kc2 d f b c.length e a.Epoch a.N)),(7,.cells ((m 7).x) 91 (kc3 y3.1.Name y3.1.Version.Epoch y3.1.Version.N y3.1.Crc))]) [(0,{ act := .load 5 0 0 [] }),(2,{ act := .load 6 0 0 [] }),(3,{ act := .call [1,2,3] (.tuple #[.agg ((kc3 y3.1.Name y3.1.Version.Epoch y3.1.Version.N y3.1.Crc)).toArray,.bool y3.2]) }),(7,{ act := .new .var,key := some 7 }),(8,{ act := .store 0 0 [],key := some 7 })] (fun m => [(g 0).x = (g 0).x,(g 1).x = (g 1).x,CallOK Tryz.prog 37 #[.agg ((kc0 u o.Epoch o.N l p.length s h k.length q i j.length r)).toArray,.string f] (.tuple #[.agg ((kc3 y3.1.Name y3.1.Version.Epoch y3.1.Version.N y3.1.Crc)).toArray,.bool y3.2]) [some (r31 l p),some (r94 h k),some (r91 i j)],(m 7).x = (m 7).x,oC (.agg ((kc3 y3.1.Name y3.1.Version.Epoch y3.1.Version.N y3.1.Crc)).toArray)]) (fun m => ⟨rfl,rfl,(by have h1 := w_pglog_Find_2 F u o l s p h q k i r j f e4; exact h1.ok ⟨(.inl ⟨r31 l p,.head _,Cov.refl _⟩),(.inl ⟨r94 h k,(.tail _ (.head _)),Cov.refl _⟩),(.inl ⟨r91 i j,(.tail _ (.tail _ (.head _))),Cov.refl _⟩),trivial⟩),rfl,rfl,trivial⟩) ?_
  intro m
  refine GS.seq ?_
  refine jn_elim hm (fun J7 ad hm => ?_)
  refine GS.cut (ι := Bool) (I := fun (n : Bool) => J7 n = some y) (E := fun (n : Bool) => [(3,pA ((g 1).x) 0),(5,pA ((m 7).x) 0),(6,.bool y3.2),(7,.bool n)]) (M := fun (n : Bool) => [(4,r5 b c),(6,.cells ((g 1).x) 34 (kc2 d f b c.length e a.Epoch a.N)),(7,.cells ((m 7).x) 91 (kc3 y3.1.Name y3.1.Version.Epoch y3.1.Version.N y3.1.Crc))]) ?_ ?_
  rotate_left
  · intro H8
    refine br_elim hm (fun h6 hm => ?_) (fun h6 hm => ?_)
    · skip
      refine GS.tg (fun _ => [(3,pA ((g 1).x) 0),(5,pA ((m 7).x) 0),(6,.bool y3.2),(7,.bool (decide ((j.length : Int) ≥ 32)))]) (fun _ => [(4,r5 b c),(6,.cells ((g 1).x) 34 (kc2 d f b c.length e a.Epoch a.N)),(7,.cells ((m 7).x) 91 (kc3 y3.1.Name y3.1.Version.Epoch y3.1.Version.N y3.1.Crc))]) [(2,{ sp := some (.bool true) }),(4,{ act := .load 5 0 0 [] })] (fun _ => [((.bool (!y3.2)) : Value) = .bool true,(g 0).x = (g 0).x]) (fun _ => ⟨bool_eq h6,rfl,trivial⟩) ?_
      intro _
      refine GS.rekey (env' := [(3,pA ((g 1).x) 0),(5,pA ((m 7).x) 0),(6,.bool y3.2),(7,.bool (decide ((j.length : Int) ≥ 32)))]) (mem' := [(4,r5 b c),(6,.cells ((g 1).x) 34 (kc2 d f b c.length e a.Epoch a.N)),(7,.cells ((m 7).x) 91 (kc3 y3.1.Name y3.1.Version.Epoch y3.1.Version.N y3.1.Crc))]) [3,5,6,7] [(4,4),(6,6),(7,7)] (by kernel_rfl) (by kernel_rfl) rfl ?_
      exact H8 (decide ((j.length : Int) ≥ 32)) hm
    · skip
      refine GS.tg (fun _ => [(3,pA ((g 1).x) 0),(5,pA ((m 7).x) 0),(6,.bool y3.2),(7,.bool false)]) (fun _ => [(4,r5 b c),(6,.cells ((g 1).x) 34 (kc2 d f b c.length e a.Epoch a.N)),(7,.cells ((m 7).x) 91 (kc3 y3.1.Name y3.1.Version.Epoch y3.1.Version.N y3.1.Crc))]) [(2,{ sp := some (.bool false) })] (fun _ => [((.bool (!y3.2)) : Value) = .bool false]) (fun _ => ⟨bool_eq h6,trivial⟩) ?_
      intro _
      refine GS.rekey (env' := [(3,pA ((g 1).x) 0),(5,pA ((m 7).x) 0),(6,.bool y3.2),(7,.bool false)]) (mem' := [(4,r5 b c),(6,.cells ((g 1).x) 34 (kc2 d f b c.length e a.Epoch a.N)),(7,.cells ((m 7).x) 91 (kc3 y3.1.Name y3.1.Version.Epoch y3.1.Version.N y3.1.Crc))]) [3,5,6,7] [(4,4),(6,6),(7,7)] (by kernel_rfl) (by kernel_rfl) rfl ?_
      exact H8 false hm
  · rintro n hm
    replace hm := (ad _).symm.trans hm
    try dsimp only at hm
    refine GS.seq ?_
    refine GS.seq ?_
    refine GS.tgM (fun _ => [(3,pA ((g 1).x) 0),(5,pA ((m 7).x) 0),(6,.bool y3.2),(7,.bool n),(24,vI d)]) [(1,{ act := .load 6 0 0 [] })] (fun _ => [(g 1).x = (g 1).x]) (fun _ => ⟨rfl,trivial⟩) ?_
    intro _
    refine GS.block ?_
    refine GS.seq ?_
    refine GS.seq ?_
    refine GS.tzM (fun _ => [(3,pA ((g 1).x) 0),(5,pA ((m 7).x) 0),(6,.bool y3.2),(7,.bool n),(24,vI d),(25,.bool (d == 2))]) [] ?_
    intro _
    refine jn_elim hm (fun ae V hm => ?_)
    refine GS.cut (ι := Bool) (I := fun (v : Bool) => ae v = some y) (E := fun (v : Bool) => [(3,pA ((g 1).x) 0),(5,pA ((m 7).x) 0),(6,.bool y3.2),(7,.bool n),(25,.bool v)]) (M := fun (v : Bool) => [(4,r5 b c),(6,.cells ((g 1).x) 34 (kc2 d f b c.length e a.Epoch a.N)),(7,.cells ((m 7).x) 91 (kc3 y3.1.Name y3.1.Version.Epoch y3.1.Version.N y3.1.Crc))]) ?_ ?_
    rotate_left
    · intro D
      refine GS.cond (t := d == 2) rfl rfl (fun G => ?_) (fun G => ?_)
      · replace hm := br_t G hm
        refine GS.skip ?_
        refine GS.rekey (env' := [(3,pA ((g 1).x) 0),(5,pA ((m 7).x) 0),(6,.bool y3.2),(7,.bool n),(25,.bool (d == 2))]) (mem' := [(4,r5 b c),(6,.cells ((g 1).x) 34 (kc2 d f b c.length e a.Epoch a.N)),(7,.cells ((m 7).x) 91 (kc3 y3.1.Name y3.1.Version.Epoch y3.1.Version.N y3.1.Crc))]) [3,5,6,7,25] [(4,4),(6,6),(7,7)] (by kernel_rfl) (by kernel_rfl) rfl ?_
        exact D (d == 2) hm
      · replace hm := br_f G hm
        refine GS.seq ?_
        refine GS.tzM (fun _ => [(3,pA ((g 1).x) 0),(5,pA ((m 7).x) 0),(6,.bool y3.2),(7,.bool n),(24,vI d),(25,.bool (d == 3))]) [] ?_
        intro _
        refine GS.cond (t := d == 3) rfl rfl (fun H => ?_) (fun H => ?_)
        · replace hm := br_t H hm
          refine GS.skip ?_
          refine GS.rekey (env' := [(3,pA ((g 1).x) 0),(5,pA ((m 7).x) 0),(6,.bool y3.2),(7,.bool n),(25,.bool (d == 3))]) (mem' := [(4,r5 b c),(6,.cells ((g 1).x) 34 (kc2 d f b c.length e a.Epoch a.N)),(7,.cells ((m 7).x) 91 (kc3 y3.1.Name y3.1.Version.Epoch y3.1.Version.N y3.1.Crc))]) [3,5,6,7,25] [(4,4),(6,6),(7,7)] (by kernel_rfl) (by kernel_rfl) rfl ?_
          exact D (d == 3) hm
        · replace hm := br_f H hm
          refine GS.tzM (fun _ => [(3,pA ((g 1).x) 0),(5,pA ((m 7).x) 0),(6,.bool y3.2),(7,.bool n),(25,.bool (d == 4))]) [] ?_
          intro _
          refine GS.rekey (env' := [(3,pA ((g 1).x) 0),(5,pA ((m 7).x) 0),(6,.bool y3.2),(7,.bool n),(25,.bool (d == 4))]) (mem' := [(4,r5 b c),(6,.cells ((g 1).x) 34 (kc2 d f b c.length e a.Epoch a.N)),(7,.cells ((m 7).x) 91 (kc3 y3.1.Name y3.1.Version.Epoch y3.1.Version.N y3.1.Crc))]) [3,5,6,7,25] [(4,4),(6,6),(7,7)] (by kernel_rfl) (by kernel_rfl) rfl ?_
          exact D (d == 4) hm
    · rintro v hm
      replace hm := (V _).symm.trans hm
      try dsimp only at hm
      refine GS.cond (t := v) rfl rfl (fun J => ?_) (fun J => ?_)
      · replace hm := br_t J hm
        refine GS.skip ?_
        refine GS.inBlock ?_
        refine GS.seq ?_
        refine GS.block ?_
        refine GS.seq ?_
        refine bnd_elim hm (fun C af hm => ?_)
        refine GS.tgM (fun _ => [(3,pA ((g 1).x) 0),(5,pA ((m 7).x) 0),(6,.bool y3.2),(7,.bool n),(29,.bool (!C))]) [(1,{ act := .load 6 0 0 [] }),(2,{ act := .call [] (.bool C) })] (fun _ => [(g 1).x = (g 1).x,CallOK Tryz.prog 38 #[.string f] (.bool C) []]) (fun _ => ⟨rfl,(by have h1 := w_place_Good_2 F f af; exact h1.ok trivial),trivial⟩) ?_
        intro _
        refine GS.cond (t := !C) rfl rfl (fun K => ?_) (fun K => ?_)
        · replace hm := br_t K hm
          refine GS.seq ?_
          refine GS.tz (fun _ => [(4,vI 36)]) (fun _ => []) [] ?_
          intro _
          have hy := Option.some.inj hm
          subst hy
          refine GS.ret (fn := Tryz.f11) [0] [vI 36] [] rfl Tryz.func11 (by kernel_rfl) trivial (fun w' hs => ?_)
          exact ⟨(),rfl,hs.turnedG (ks := []) rfl rfl⟩
        · replace hm := br_f K hm
          refine GS.seq ?_
          refine GS.tgM (fun _ => [(3,pA ((g 1).x) 0),(5,pA ((m 7).x) 0),(6,.bool y3.2),(7,.bool n),(34,.bool (decide ((c.length : Int) > 4096)))]) [(1,{ act := .load 6 0 0 [] })] (fun _ => [(g 1).x = (g 1).x]) (fun _ => ⟨rfl,trivial⟩) ?_
          intro _
          refine GS.cond (t := decide ((c.length : Int) > 4096)) rfl rfl (fun L => ?_) (fun L => ?_)
          · replace hm := br_t L hm
            refine GS.seq ?_
            refine GS.tz (fun _ => [(4,vI 27)]) (fun _ => []) [] ?_
            intro _
            have hy := Option.some.inj hm
            subst hy
            refine GS.ret (fn := Tryz.f11) [0] [vI 27] [] rfl Tryz.func11 (by kernel_rfl) trivial (fun w' hs => ?_)
            exact ⟨(),rfl,hs.turnedG (ks := []) rfl rfl⟩
          · replace hm := br_f L hm
            refine GS.seq ?_
            refine jn_elim hm (fun ag W hm => ?_)
            refine GS.cut (ι := Bool) (I := fun (z : Bool) => ag z = some y) (E := fun (z : Bool) => [(3,pA ((g 1).x) 0),(5,pA ((m 7).x) 0),(7,.bool n),(39,.bool z)]) (M := fun (z : Bool) => [(4,r5 b c),(6,.cells ((g 1).x) 34 (kc2 d f b c.length e a.Epoch a.N)),(7,.cells ((m 7).x) 91 (kc3 y3.1.Name y3.1.Version.Epoch y3.1.Version.N y3.1.Crc))]) ?_ ?_
            rotate_left
            · intro Y
              refine br_elim hm (fun O hm => ?_) (fun O hm => ?_)
              · skip
                refine GS.tgM (fun _ => [(3,pA ((g 1).x) 0),(5,pA ((m 7).x) 0),(7,.bool n),(39,.bool (!y3.2))]) [(1,{ act := .load 6 0 0 [] }),(3,{ sp := some (.bool true) })] (fun _ => [(g 1).x = (g 1).x,((.bool (d == 3)) : Value) = .bool true]) (fun _ => ⟨rfl,bool_eq O,trivial⟩) ?_
                intro _
                refine GS.rekey (env' := [(3,pA ((g 1).x) 0),(5,pA ((m 7).x) 0),(7,.bool n),(39,.bool (!y3.2))]) (mem' := [(4,r5 b c),(6,.cells ((g 1).x) 34 (kc2 d f b c.length e a.Epoch a.N)),(7,.cells ((m 7).x) 91 (kc3 y3.1.Name y3.1.Version.Epoch y3.1.Version.N y3.1.Crc))]) [3,5,7,39] [(4,4),(6,6),(7,7)] (by kernel_rfl) (by kernel_rfl) rfl ?_
                exact Y (!y3.2) hm
              · skip
                refine GS.tgM (fun _ => [(3,pA ((g 1).x) 0),(5,pA ((m 7).x) 0),(7,.bool n),(39,.bool false)]) [(1,{ act := .load 6 0 0 [] }),(3,{ sp := some (.bool false) })] (fun _ => [(g 1).x = (g 1).x,((.bool (d == 3)) : Value) = .bool false]) (fun _ => ⟨rfl,bool_eq O,trivial⟩) ?_
                intro _
                refine GS.rekey (env' := [(3,pA ((g 1).x) 0),(5,pA ((m 7).x) 0),(7,.bool n),(39,.bool false)]) (mem' := [(4,r5 b c),(6,.cells ((g 1).x) 34 (kc2 d f b c.length e a.Epoch a.N)),(7,.cells ((m 7).x) 91 (kc3 y3.1.Name y3.1.Version.Epoch y3.1.Version.N y3.1.Crc))]) [3,5,7,39] [(4,4),(6,6),(7,7)] (by kernel_rfl) (by kernel_rfl) rfl ?_
                exact Y false hm
            · rintro z hm
              replace hm := (W _).symm.trans hm
              try dsimp only at hm
              refine GS.cond (t := z) rfl rfl (fun P => ?_) (fun P => ?_)
              · replace hm := br_t P hm
                refine GS.seq ?_
                refine GS.tz (fun _ => [(4,vI 2)]) (fun _ => []) [] ?_
                intro _
                have hy := Option.some.inj hm
                subst hy
                refine GS.ret (fn := Tryz.f11) [0] [vI 2] [] rfl Tryz.func11 (by kernel_rfl) trivial (fun w' hs => ?_)
                exact ⟨(),rfl,hs.turnedG (ks := []) rfl rfl⟩
              · replace hm := br_f P hm
                refine GS.seq ?_
                refine jn_elim hm (fun ah Z hm => ?_)
                refine GS.cut (ι := Bool) (I := fun (A : Bool) => ah A = some y) (E := fun (A : Bool) => [(3,pA ((g 1).x) 0),(7,.bool n),(47,.bool A)]) (M := fun (A : Bool) => [(4,r5 b c),(6,.cells ((g 1).x) 34 (kc2 d f b c.length e a.Epoch a.N))]) ?_ ?_
                rotate_left
                · intro aa
                  refine br_elim hm (fun Q hm => ?_) (fun Q hm => ?_)
                  · skip
                    refine GS.tg (fun _ => [(3,pA ((g 1).x) 0),(7,.bool n),(47,.bool (!(S_api_Version.beq y3.1.Version a)))]) (fun _ => [(4,r5 b c),(6,.cells ((g 1).x) 34 (kc2 d f b c.length e a.Epoch a.N))]) [(1,{ act := .load 6 0 0 [] }),(3,{ sp := some (.bool true) }),(5,{ act := .load 7 0 0 [] }),(7,{ act := .load 6 0 0 [] }),(8,{ act := .eq })] (fun _ => [(g 1).x = (g 1).x,((.bool (d == 4)) : Value) = .bool true,(m 7).x = (m 7).x,(g 1).x = (g 1).x]) (fun _ => ⟨rfl,bool_eq Q,rfl,rfl,trivial⟩) ?_
                    intro _
                    refine GS.rekey (env' := [(3,pA ((g 1).x) 0),(7,.bool n),(47,.bool (!(S_api_Version.beq y3.1.Version a)))]) (mem' := [(4,r5 b c),(6,.cells ((g 1).x) 34 (kc2 d f b c.length e a.Epoch a.N))]) [3,7,47] [(4,4),(6,6)] (by kernel_rfl) (by kernel_rfl) rfl ?_
                    exact aa (!(S_api_Version.beq y3.1.Version a)) hm
                  · skip
                    refine GS.tg (fun _ => [(3,pA ((g 1).x) 0),(7,.bool n),(47,.bool false)]) (fun _ => [(4,r5 b c),(6,.cells ((g 1).x) 34 (kc2 d f b c.length e a.Epoch a.N))]) [(1,{ act := .load 6 0 0 [] }),(3,{ sp := some (.bool false) })] (fun _ => [(g 1).x = (g 1).x,((.bool (d == 4)) : Value) = .bool false]) (fun _ => ⟨rfl,bool_eq Q,trivial⟩) ?_
                    intro _
                    refine GS.rekey (env' := [(3,pA ((g 1).x) 0),(7,.bool n),(47,.bool false)]) (mem' := [(4,r5 b c),(6,.cells ((g 1).x) 34 (kc2 d f b c.length e a.Epoch a.N))]) [3,7,47] [(4,4),(6,6)] (by kernel_rfl) (by kernel_rfl) rfl ?_
                    exact aa false hm
                · rintro A hm
                  replace hm := (Z _).symm.trans hm
                  try dsimp only at hm
                  refine GS.cond (t := A) rfl rfl (fun R => ?_) (fun R => ?_)
                  · replace hm := br_t R hm
                    refine GS.seq ?_
                    refine GS.tz (fun _ => [(4,vI 126)]) (fun _ => []) [] ?_
                    intro _
                    have hy := Option.some.inj hm
                    subst hy
                    refine GS.ret (fn := Tryz.f11) [0] [vI 126] [] rfl Tryz.func11 (by kernel_rfl) trivial (fun w' hs => ?_)
                    exact ⟨(),rfl,hs.turnedG (ks := []) rfl rfl⟩
                  · replace hm := br_f R hm
                    refine GS.seq ?_
                    refine jn_elim hm (fun ai ab hm => ?_)
                    refine GS.cut (ι := Bool) (I := fun (B : Bool) => ai B = some y) (E := fun (B : Bool) => [(58,.bool B)]) (M := fun (B : Bool) => []) ?_ ?_
                    rotate_left
                    · intro ac
                      refine br_elim hm (fun T hm => ?_) (fun T hm => ?_)
                      · skip
                        refine GS.tg (fun _ => [(58,.bool n)]) (fun _ => []) [(1,{ act := .load 6 0 0 [] }),(3,{ sp := some (.bool true) })] (fun _ => [(g 1).x = (g 1).x,((.bool (d != 3)) : Value) = .bool true]) (fun _ => ⟨rfl,bool_eq T,trivial⟩) ?_
                        intro _
                        refine GS.rekey (env' := [(58,.bool n)]) (mem' := []) [58] [] (by kernel_rfl) (by kernel_rfl) rfl ?_
                        exact ac n hm
                      · skip
                        refine GS.tg (fun _ => [(58,.bool false)]) (fun _ => []) [(1,{ act := .load 6 0 0 [] }),(3,{ sp := some (.bool false) })] (fun _ => [(g 1).x = (g 1).x,((.bool (d != 3)) : Value) = .bool false]) (fun _ => ⟨rfl,bool_eq T,trivial⟩) ?_
                        intro _
                        refine GS.rekey (env' := [(58,.bool false)]) (mem' := []) [58] [] (by kernel_rfl) (by kernel_rfl) rfl ?_
                        exact ac false hm
                    · rintro B hm
                      replace hm := (ab _).symm.trans hm
                      try dsimp only at hm
                      refine GS.cond (t := B) rfl rfl (fun U => ?_) (fun U => ?_)
                      · replace hm := br_t U hm
                        refine GS.seq ?_
                        refine GS.tzM (fun _ => [(4,vI 28)]) [] ?_
                        intro _
                        have hy := Option.some.inj hm
                        subst hy
                        refine GS.ret (fn := Tryz.f11) [0] [vI 28] [] rfl Tryz.func11 (by kernel_rfl) trivial (fun w' hs => ?_)
                        exact ⟨(),rfl,hs.turnedG (ks := []) rfl rfl⟩
                      · replace hm := br_f U hm
                        refine GS.skip ?_
                        refine GS.inBlock ?_
                        refine GS.seq ?_
                        refine GS.tzM (fun _ => [(4,vI 0)]) [] ?_
                        intro _
                        have hy := Option.some.inj hm
                        subst hy
                        refine GS.ret (fn := Tryz.f11) [0] [vI 0] [] rfl Tryz.func11 (by kernel_rfl) trivial (fun w' hs => ?_)
                        exact ⟨(),rfl,hs.turnedG (ks := []) rfl rfl⟩
      · replace hm := br_f J hm
        refine GS.seq ?_
        refine GS.tz (fun _ => [(4,vI 22)]) (fun _ => []) [] ?_
        intro _
        have hy := Option.some.inj hm
        subst hy
        refine GS.ret (fn := Tryz.f11) [0] [vI 22] [] rfl Tryz.func11 (by kernel_rfl) trivial (fun w' hs => ?_)
        exact ⟨(),rfl,hs.turnedG (ks := []) rfl rfl⟩

theorem w_tholeref18_Verdict (F : Nat) (p : Int) (f : S_api_Version) (e : Option Addr) (o : Nat) (h : List S_api_Entry) (a : Option Addr) (j : Nat) (d : List S_api_Last) (b : Option Addr) (k : Nat) (c : List S_api_Item) (m : Int) (q : ByteArray) (l : Option Addr) (r : Nat) (n : List UInt8) (g : S_api_Version) {y : Int} (hm : m_tholeref18_Verdict F p f h d c m q n g = some y) : CallG Tryz.prog 12 #[.agg ((kc0 p f.Epoch f.N e h.length o a d.length j b c.length k)).toArray,.agg ((kc2 m q l n.length r g.Epoch g.N)).toArray] (X := Unit) (fun (_ : Unit) => vI y) [] [r31 e h,r94 a d,r91 b c,r5 l n] (fun (_ : Unit) => []) := by
  intro w hg
  rw [m_tholeref18_Verdict] at hm
  refine GS.start (S := mayT [] [r31 e h,r94 a d,r91 b c,r5 l n]) (mem := [(1,r31 e h),(2,r94 a d),(3,r91 b c),(4,r5 l n)]) Tryz.func12 rfl Tryz.ntmps12 (Nat.le_of_ble_eq_true rfl) (hg.start rfl) ?_
  refine GS.conv (env' := [(0,.agg ((kc0 p f.Epoch f.N e h.length o a d.length j b c.length k)).toArray),(1,.agg ((kc2 m q l n.length r g.Epoch g.N)).toArray)]) rfl rfl ?_
  refine GS.seq ?_
  refine GS.tz (fun i => [(2,pA ((i 0).x) 0),(3,pA ((i 1).x) 0)]) (fun i => [(1,r31 e h),(2,r94 a d),(3,r91 b c),(4,r5 l n),(5,.cells ((i 0).x) 28 (kc0 p f.Epoch f.N e h.length o a d.length j b c.length k)),(6,.cells ((i 1).x) 34 (kc2 m q l n.length r g.Epoch g.N))]) [(0,{ act := .new .var,key := some 5 }),(1,{ act := .new .var,key := some 6 })] ?_
  intro i
  refine GS.seq ?_
  refine GS.seq ?_
  refine jn_elim hm (fun J4 U hm => ?_)
  refine GS.cut (ι := Bool) (I := fun (v : Bool) => J4 v = some y) (E := fun (v : Bool) => [(2,pA ((i 0).x) 0),(3,pA ((i 1).x) 0),(19,.bool v)]) (M := fun (v : Bool) => [(1,r31 e h),(2,r94 a d),(3,r91 b c),(4,r5 l n),(5,.cells ((i 0).x) 28 (kc0 p f.Epoch f.N e h.length o a d.length j b c.length k)),(6,.cells ((i 1).x) 34 (kc2 m q l n.length r g.Epoch g.N))]) ?_ ?_
  rotate_left
  · intro H5
    refine br_elim hm (fun h3 hm => ?_) (fun h3 hm => ?_)
    · skip
      refine br_elim hm (fun h4 hm => ?_) (fun h4 hm => ?_)
      · skip
        refine GS.tgM (fun _ => [(2,pA ((i 0).x) 0),(3,pA ((i 1).x) 0),(19,.bool (m != 4))]) [(1,{ act := .load 6 0 0 [] }),(3,{ sp := some (.bool true) }),(5,{ act := .load 6 0 0 [] }),(8,{ sp := some (.bool true) }),(10,{ act := .load 6 0 0 [] })] (fun _ => [(i 1).x = (i 1).x,((.bool (m != 2)) : Value) = .bool true,(i 1).x = (i 1).x,((.bool (m != 3)) : Value) = .bool true,(i 1).x = (i 1).x]) (fun _ => ⟨rfl,bool_eq h3,rfl,bool_eq h4,rfl,trivial⟩) ?_
        intro _
        refine GS.rekey (env' := [(2,pA ((i 0).x) 0),(3,pA ((i 1).x) 0),(19,.bool (m != 4))]) (mem' := [(1,r31 e h),(2,r94 a d),(3,r91 b c),(4,r5 l n),(5,.cells ((i 0).x) 28 (kc0 p f.Epoch f.N e h.length o a d.length j b c.length k)),(6,.cells ((i 1).x) 34 (kc2 m q l n.length r g.Epoch g.N))]) [2,3,19] [(1,1),(2,2),(3,3),(4,4),(5,5),(6,6)] (by kernel_rfl) (by kernel_rfl) rfl ?_
        exact H5 (m != 4) hm
      · skip
        refine GS.tgM (fun _ => [(2,pA ((i 0).x) 0),(3,pA ((i 1).x) 0),(19,.bool false)]) [(1,{ act := .load 6 0 0 [] }),(3,{ sp := some (.bool true) }),(5,{ act := .load 6 0 0 [] }),(8,{ sp := some (.bool false) })] (fun _ => [(i 1).x = (i 1).x,((.bool (m != 2)) : Value) = .bool true,(i 1).x = (i 1).x,((.bool (m != 3)) : Value) = .bool false]) (fun _ => ⟨rfl,bool_eq h3,rfl,bool_eq h4,trivial⟩) ?_
        intro _
        refine GS.rekey (env' := [(2,pA ((i 0).x) 0),(3,pA ((i 1).x) 0),(19,.bool false)]) (mem' := [(1,r31 e h),(2,r94 a d),(3,r91 b c),(4,r5 l n),(5,.cells ((i 0).x) 28 (kc0 p f.Epoch f.N e h.length o a d.length j b c.length k)),(6,.cells ((i 1).x) 34 (kc2 m q l n.length r g.Epoch g.N))]) [2,3,19] [(1,1),(2,2),(3,3),(4,4),(5,5),(6,6)] (by kernel_rfl) (by kernel_rfl) rfl ?_
        exact H5 false hm
    · skip
      refine GS.tgM (fun _ => [(2,pA ((i 0).x) 0),(3,pA ((i 1).x) 0),(19,.bool false)]) [(1,{ act := .load 6 0 0 [] }),(3,{ sp := some (.bool false) })] (fun _ => [(i 1).x = (i 1).x,((.bool (m != 2)) : Value) = .bool false]) (fun _ => ⟨rfl,bool_eq h3,trivial⟩) ?_
      intro _
      refine GS.rekey (env' := [(2,pA ((i 0).x) 0),(3,pA ((i 1).x) 0),(19,.bool false)]) (mem' := [(1,r31 e h),(2,r94 a d),(3,r91 b c),(4,r5 l n),(5,.cells ((i 0).x) 28 (kc0 p f.Epoch f.N e h.length o a d.length j b c.length k)),(6,.cells ((i 1).x) 34 (kc2 m q l n.length r g.Epoch g.N))]) [2,3,19] [(1,1),(2,2),(3,3),(4,4),(5,5),(6,6)] (by kernel_rfl) (by kernel_rfl) rfl ?_
      exact H5 false hm
  · rintro v hm
    replace hm := (U _).symm.trans hm
    try dsimp only at hm
    refine GS.cond (t := v) rfl rfl (fun h7 => ?_) (fun h7 => ?_)
    · replace hm := br_t h7 hm
      refine GS.seq ?_
      refine GS.tz (fun _ => [(4,vI 22)]) (fun _ => []) [] ?_
      intro _
      have hy := Option.some.inj hm
      subst hy
      refine GS.ret (fn := Tryz.f12) [0] [vI 22] [] rfl Tryz.func12 (by kernel_rfl) trivial (fun w' hs => ?_)
      exact ⟨(),rfl,hs.turnedG (ks := []) rfl rfl⟩
    · replace hm := br_f h7 hm
      refine GS.skip ?_
      refine GS.seq ?_
      refine GS.seq ?_
      refine bnd_elim hm (fun B V hm => ?_)
      refine GS.tgM (fun _ => [(2,pA ((i 0).x) 0),(3,pA ((i 1).x) 0),(23,.bool (!B))]) [(1,{ act := .load 6 0 0 [] }),(2,{ act := .call [] (.bool B) })] (fun _ => [(i 1).x = (i 1).x,CallOK Tryz.prog 29 #[.string q] (.bool B) []]) (fun _ => ⟨rfl,(by have h1 := w_tholeref09_Good F q V; exact h1.ok trivial),trivial⟩) ?_
      intro _
      refine GS.cond (t := !B) rfl rfl (fun C => ?_) (fun C => ?_)
      · replace hm := br_t C hm
        refine GS.seq ?_
        refine GS.tz (fun _ => [(4,vI 36)]) (fun _ => []) [] ?_
        intro _
        have hy := Option.some.inj hm
        subst hy
        refine GS.ret (fn := Tryz.f12) [0] [vI 36] [] rfl Tryz.func12 (by kernel_rfl) trivial (fun w' hs => ?_)
        exact ⟨(),rfl,hs.turnedG (ks := []) rfl rfl⟩
      · replace hm := br_f C hm
        refine GS.skip ?_
        refine GS.seq ?_
        refine GS.seq ?_
        refine GS.tgM (fun _ => [(2,pA ((i 0).x) 0),(3,pA ((i 1).x) 0),(27,.bool (decide ((n.length : Int) > 4096)))]) [(1,{ act := .load 6 0 0 [] })] (fun _ => [(i 1).x = (i 1).x]) (fun _ => ⟨rfl,trivial⟩) ?_
        intro _
        refine GS.cond (t := decide ((n.length : Int) > 4096)) rfl rfl (fun D => ?_) (fun D => ?_)
        · replace hm := br_t D hm
          refine GS.seq ?_
          refine GS.tz (fun _ => [(4,vI 27)]) (fun _ => []) [] ?_
          intro _
          have hy := Option.some.inj hm
          subst hy
          refine GS.ret (fn := Tryz.f12) [0] [vI 27] [] rfl Tryz.func12 (by kernel_rfl) trivial (fun w' hs => ?_)
          exact ⟨(),rfl,hs.turnedG (ks := []) rfl rfl⟩
        · replace hm := br_f D hm
          refine GS.skip ?_
          refine GS.seq ?_
          refine bnd_elim hm (fun s W hm => ?_)
          refine GS.tg (fun u => [(2,pA ((i 0).x) 0),(3,pA ((i 1).x) 0),(5,pA ((u 7).x) 0),(6,.bool s.2)]) (fun u => [(1,r31 e h),(2,r94 a d),(3,r91 b c),(4,r5 l n),(5,.cells ((i 0).x) 28 (kc0 p f.Epoch f.N e h.length o a d.length j b c.length k)),(6,.cells ((i 1).x) 34 (kc2 m q l n.length r g.Epoch g.N)),(7,.cells ((u 7).x) 91 (kc3 s.1.Name s.1.Version.Epoch s.1.Version.N s.1.Crc))]) [(0,{ act := .load 5 0 0 [] }),(2,{ act := .load 6 0 0 [] }),(3,{ act := .call [1,2,3] (.tuple #[.agg ((kc3 s.1.Name s.1.Version.Epoch s.1.Version.N s.1.Crc)).toArray,.bool s.2]) }),(7,{ act := .new .var,key := some 7 }),(8,{ act := .store 0 0 [],key := some 7 })] (fun u => [(i 0).x = (i 0).x,(i 1).x = (i 1).x,CallOK Tryz.prog 39 #[.agg ((kc0 p f.Epoch f.N e h.length o a d.length j b c.length k)).toArray,.string q] (.tuple #[.agg ((kc3 s.1.Name s.1.Version.Epoch s.1.Version.N s.1.Crc)).toArray,.bool s.2]) [some (r31 e h),some (r94 a d),some (r91 b c)],(u 7).x = (u 7).x,oC (.agg ((kc3 s.1.Name s.1.Version.Epoch s.1.Version.N s.1.Crc)).toArray)]) (fun u => ⟨rfl,rfl,(by have h1 := w_tholeref13_Find F p f e o h a j d b k c q W; exact h1.ok ⟨(.inl ⟨r31 e h,.head _,Cov.refl _⟩),(.inl ⟨r94 a d,(.tail _ (.head _)),Cov.refl _⟩),(.inl ⟨r91 b c,(.tail _ (.tail _ (.head _))),Cov.refl _⟩),trivial⟩),rfl,rfl,trivial⟩) ?_
          intro u
          refine GS.seq ?_
          refine GS.seq ?_
          refine GS.tgM (fun _ => [(2,pA ((i 0).x) 0),(3,pA ((i 1).x) 0),(5,pA ((u 7).x) 0),(6,.bool s.2),(37,.bool (m == 3))]) [(1,{ act := .load 6 0 0 [] })] (fun _ => [(i 1).x = (i 1).x]) (fun _ => ⟨rfl,trivial⟩) ?_
          intro _
          refine GS.cond (t := m == 3) rfl rfl (fun G => ?_) (fun G => ?_)
          · replace hm := br_t G hm
            refine GS.seq ?_
            refine GS.seq ?_
            refine GS.tz (fun _ => [(39,.bool (!s.2))]) (fun _ => []) [] ?_
            intro _
            refine GS.cond (t := !s.2) rfl rfl (fun H => ?_) (fun H => ?_)
            · replace hm := br_t H hm
              refine GS.seq ?_
              refine GS.tzM (fun _ => [(4,vI 2)]) [] ?_
              intro _
              have hy := Option.some.inj hm
              subst hy
              refine GS.ret (fn := Tryz.f12) [0] [vI 2] [] rfl Tryz.func12 (by kernel_rfl) trivial (fun w' hs => ?_)
              exact ⟨(),rfl,hs.turnedG (ks := []) rfl rfl⟩
            · replace hm := br_f H hm
              refine GS.skip ?_
              refine GS.seq ?_
              refine GS.tzM (fun _ => [(4,vI 0)]) [] ?_
              intro _
              have hy := Option.some.inj hm
              subst hy
              refine GS.ret (fn := Tryz.f12) [0] [vI 0] [] rfl Tryz.func12 (by kernel_rfl) trivial (fun w' hs => ?_)
              exact ⟨(),rfl,hs.turnedG (ks := []) rfl rfl⟩
          · replace hm := br_f G hm
            refine GS.skip ?_
            refine GS.seq ?_
            refine GS.seq ?_
            refine jn_elim hm (fun Y P hm => ?_)
            refine GS.cut (ι := Bool) (I := fun (z : Bool) => Y z = some y) (E := fun (z : Bool) => [(2,pA ((i 0).x) 0),(6,.bool s.2),(49,.bool z)]) (M := fun (z : Bool) => [(1,r31 e h),(2,r94 a d),(3,r91 b c),(5,.cells ((i 0).x) 28 (kc0 p f.Epoch f.N e h.length o a d.length j b c.length k))]) ?_ ?_
            rotate_left
            · intro Q
              refine br_elim hm (fun J hm => ?_) (fun J hm => ?_)
              · skip
                refine GS.tg (fun _ => [(2,pA ((i 0).x) 0),(6,.bool s.2),(49,.bool (!(S_api_Version.beq s.1.Version g)))]) (fun _ => [(1,r31 e h),(2,r94 a d),(3,r91 b c),(5,.cells ((i 0).x) 28 (kc0 p f.Epoch f.N e h.length o a d.length j b c.length k))]) [(1,{ act := .load 6 0 0 [] }),(3,{ sp := some (.bool true) }),(5,{ act := .load 7 0 0 [] }),(7,{ act := .load 6 0 0 [] }),(8,{ act := .eq })] (fun _ => [(i 1).x = (i 1).x,((.bool (m == 4)) : Value) = .bool true,(u 7).x = (u 7).x,(i 1).x = (i 1).x]) (fun _ => ⟨rfl,bool_eq J,rfl,rfl,trivial⟩) ?_
                intro _
                refine GS.rekey (env' := [(2,pA ((i 0).x) 0),(6,.bool s.2),(49,.bool (!(S_api_Version.beq s.1.Version g)))]) (mem' := [(1,r31 e h),(2,r94 a d),(3,r91 b c),(5,.cells ((i 0).x) 28 (kc0 p f.Epoch f.N e h.length o a d.length j b c.length k))]) [2,6,49] [(1,1),(2,2),(3,3),(5,5)] (by kernel_rfl) (by kernel_rfl) rfl ?_
                exact Q (!(S_api_Version.beq s.1.Version g)) hm
              · skip
                refine GS.tg (fun _ => [(2,pA ((i 0).x) 0),(6,.bool s.2),(49,.bool false)]) (fun _ => [(1,r31 e h),(2,r94 a d),(3,r91 b c),(5,.cells ((i 0).x) 28 (kc0 p f.Epoch f.N e h.length o a d.length j b c.length k))]) [(1,{ act := .load 6 0 0 [] }),(3,{ sp := some (.bool false) })] (fun _ => [(i 1).x = (i 1).x,((.bool (m == 4)) : Value) = .bool false]) (fun _ => ⟨rfl,bool_eq J,trivial⟩) ?_
                intro _
                refine GS.rekey (env' := [(2,pA ((i 0).x) 0),(6,.bool s.2),(49,.bool false)]) (mem' := [(1,r31 e h),(2,r94 a d),(3,r91 b c),(5,.cells ((i 0).x) 28 (kc0 p f.Epoch f.N e h.length o a d.length j b c.length k))]) [2,6,49] [(1,1),(2,2),(3,3),(5,5)] (by kernel_rfl) (by kernel_rfl) rfl ?_
                exact Q false hm
            · rintro z hm
              replace hm := (P _).symm.trans hm
              try dsimp only at hm
              refine GS.cond (t := z) rfl rfl (fun K => ?_) (fun K => ?_)
              · replace hm := br_t K hm
                refine GS.seq ?_
                refine GS.tz (fun _ => [(4,vI 126)]) (fun _ => []) [] ?_
                intro _
                have hy := Option.some.inj hm
                subst hy
                refine GS.ret (fn := Tryz.f12) [0] [vI 126] [] rfl Tryz.func12 (by kernel_rfl) trivial (fun w' hs => ?_)
                exact ⟨(),rfl,hs.turnedG (ks := []) rfl rfl⟩
              · replace hm := br_f K hm
                refine GS.skip ?_
                refine GS.seq ?_
                refine GS.seq ?_
                refine jn_elim hm (fun Z R hm => ?_)
                refine GS.cut (ι := Bool) (I := fun (A : Bool) => Z A = some y) (E := fun (A : Bool) => [(57,.bool A)]) (M := fun (A : Bool) => []) ?_ ?_
                rotate_left
                · intro T
                  refine br_elim hm (fun L hm => ?_) (fun L hm => ?_)
                  · skip
                    refine GS.tg (fun _ => [(57,.bool (decide ((c.length : Int) ≥ 32)))]) (fun _ => []) [(2,{ sp := some (.bool true) }),(4,{ act := .load 5 0 0 [] })] (fun _ => [((.bool (!s.2)) : Value) = .bool true,(i 0).x = (i 0).x]) (fun _ => ⟨bool_eq L,rfl,trivial⟩) ?_
                    intro _
                    refine GS.rekey (env' := [(57,.bool (decide ((c.length : Int) ≥ 32)))]) (mem' := []) [57] [] (by kernel_rfl) (by kernel_rfl) rfl ?_
                    exact T (decide ((c.length : Int) ≥ 32)) hm
                  · skip
                    refine GS.tg (fun _ => [(57,.bool false)]) (fun _ => []) [(2,{ sp := some (.bool false) })] (fun _ => [((.bool (!s.2)) : Value) = .bool false]) (fun _ => ⟨bool_eq L,trivial⟩) ?_
                    intro _
                    refine GS.rekey (env' := [(57,.bool false)]) (mem' := []) [57] [] (by kernel_rfl) (by kernel_rfl) rfl ?_
                    exact T false hm
                · rintro A hm
                  replace hm := (R _).symm.trans hm
                  try dsimp only at hm
                  refine GS.cond (t := A) rfl rfl (fun O => ?_) (fun O => ?_)
                  · replace hm := br_t O hm
                    refine GS.seq ?_
                    refine GS.tzM (fun _ => [(4,vI 28)]) [] ?_
                    intro _
                    have hy := Option.some.inj hm
                    subst hy
                    refine GS.ret (fn := Tryz.f12) [0] [vI 28] [] rfl Tryz.func12 (by kernel_rfl) trivial (fun w' hs => ?_)
                    exact ⟨(),rfl,hs.turnedG (ks := []) rfl rfl⟩
                  · replace hm := br_f O hm
                    refine GS.skip ?_
                    refine GS.seq ?_
                    refine GS.tzM (fun _ => [(4,vI 0)]) [] ?_
                    intro _
                    have hy := Option.some.inj hm
                    subst hy
                    refine GS.ret (fn := Tryz.f12) [0] [vI 0] [] rfl Tryz.func12 (by kernel_rfl) trivial (fun w' hs => ?_)
                    exact ⟨(),rfl,hs.turnedG (ks := []) rfl rfl⟩

theorem w_primary_Next_2 (F : Nat) (k : Int) (f : S_api_Version) (e : Option Addr) (j : Nat) (g : List S_api_Entry) (a : Option Addr) (h : Nat) (c : List S_api_Last) (b : Option Addr) (i : Nat) (d : List S_api_Item) (a1 : Int) {y : S_api_Version} (hm : m_primary_Next_2 F k f g c d a1 = some y) : CallG Tryz.prog 13 #[.agg ((kc0 k f.Epoch f.N e g.length j a c.length h b d.length i)).toArray,vI a1] (X := Unit) (fun (_ : Unit) => .agg #[vI y.Epoch,vI y.N]) [] [r31 e g,r94 a c,r91 b d] (fun (_ : Unit) => []) := by
  intro w hg
  rw [m_primary_Next_2] at hm
  refine GS.start (S := mayT [] [r31 e g,r94 a c,r91 b d]) (mem := [(1,r31 e g),(2,r94 a c),(3,r91 b d)]) Tryz.func13 rfl Tryz.ntmps13 (Nat.le_of_ble_eq_true rfl) (hg.start rfl) ?_
  refine GS.conv (env' := [(0,.agg ((kc0 k f.Epoch f.N e g.length j a c.length h b d.length i)).toArray),(1,vI a1)]) rfl rfl ?_
  refine GS.seq ?_
  refine GS.tz (fun l => [(1,vI a1),(2,pA ((l 0).x) 0),(4,pA ((l 1).x) 0)]) (fun l => [(1,r31 e g),(2,r94 a c),(3,r91 b d),(4,.cells ((l 0).x) 28 (kc0 k f.Epoch f.N e g.length j a c.length h b d.length i)),(5,.cells ((l 1).x) 23 [vI 0,vI 0])]) [(0,{ act := .new .var,key := some 4 }),(1,{ act := .new .var,key := some 5 })] ?_
  intro l
  refine GS.seq ?_
  refine bnd_elim hm (fun y3 e4 hm => ?_)
  refine GS.tg (fun _ => [(4,pA ((l 1).x) 0)]) (fun _ => [(5,.cells ((l 1).x) 23 [vI a1,vI (IntKind.i64.wrap (y3.N + 1))])]) [(1,{ act := .load 4 0 0 [] }),(2,{ act := .call [1,2,3] (.agg #[vI y3.Epoch,vI y3.N]) }),(6,{ act := .store 0 0 [],key := some 5 })] (fun _ => [(l 0).x = (l 0).x,CallOK Tryz.prog 30 #[.agg ((kc0 k f.Epoch f.N e g.length j a c.length h b d.length i)).toArray] (.agg #[vI y3.Epoch,vI y3.N]) [some (r31 e g),some (r94 a c),some (r91 b d)],(l 1).x = (l 1).x,oC (.agg #[vI a1,vI (IntKind.i64.wrap (y3.N + 1))])]) (fun _ => ⟨rfl,(by have h1 := w_pglog_Head_2 F k f e j g a h c b i d e4; exact h1.ok ⟨(.inl ⟨r31 e g,.head _,Cov.refl _⟩),(.inl ⟨r94 a c,(.tail _ (.head _)),Cov.refl _⟩),(.inl ⟨r91 b d,(.tail _ (.tail _ (.head _))),Cov.refl _⟩),trivial⟩),rfl,rfl,trivial⟩) ?_
  intro _
  have hy := Option.some.inj hm
  subst hy
  refine GS.ret (fn := Tryz.f13) [5] [.agg #[vI a1,vI (IntKind.i64.wrap (y3.N + 1))]] [(l 1).x = (l 1).x] rfl Tryz.func13 (by kernel_rfl) ⟨rfl,trivial⟩ (fun w' hs => ?_)
  exact ⟨(),rfl,hs.turnedG (ks := []) rfl rfl⟩

theorem w_tholeref18_Next (F : Nat) (k : Int) (f : S_api_Version) (e : Option Addr) (j : Nat) (g : List S_api_Entry) (a : Option Addr) (h : Nat) (c : List S_api_Last) (b : Option Addr) (i : Nat) (d : List S_api_Item) (a1 : Int) {y : S_api_Version} (hm : m_tholeref18_Next F k f g c d a1 = some y) : CallG Tryz.prog 14 #[.agg ((kc0 k f.Epoch f.N e g.length j a c.length h b d.length i)).toArray,vI a1] (X := Unit) (fun (_ : Unit) => .agg #[vI y.Epoch,vI y.N]) [] [r31 e g,r94 a c,r91 b d] (fun (_ : Unit) => []) := by
  intro w hg
  rw [m_tholeref18_Next] at hm
  refine GS.start (S := mayT [] [r31 e g,r94 a c,r91 b d]) (mem := [(1,r31 e g),(2,r94 a c),(3,r91 b d)]) Tryz.func14 rfl Tryz.ntmps14 (Nat.le_of_ble_eq_true rfl) (hg.start rfl) ?_
  refine GS.conv (env' := [(0,.agg ((kc0 k f.Epoch f.N e g.length j a c.length h b d.length i)).toArray),(1,vI a1)]) rfl rfl ?_
  refine GS.seq ?_
  refine GS.tz (fun l => [(1,vI a1),(2,pA ((l 0).x) 0),(4,pA ((l 1).x) 0)]) (fun l => [(1,r31 e g),(2,r94 a c),(3,r91 b d),(4,.cells ((l 0).x) 28 (kc0 k f.Epoch f.N e g.length j a c.length h b d.length i)),(5,.cells ((l 1).x) 23 [vI 0,vI 0])]) [(0,{ act := .new .var,key := some 4 }),(1,{ act := .new .var,key := some 5 })] ?_
  intro l
  refine GS.seq ?_
  refine bnd_elim hm (fun y3 e4 hm => ?_)
  refine GS.tg (fun _ => [(4,pA ((l 1).x) 0)]) (fun _ => [(5,.cells ((l 1).x) 23 [vI a1,vI (IntKind.i64.wrap (y3.N + 1))])]) [(1,{ act := .load 4 0 0 [] }),(2,{ act := .call [1,2,3] (.agg #[vI y3.Epoch,vI y3.N]) }),(6,{ act := .store 0 0 [],key := some 5 })] (fun _ => [(l 0).x = (l 0).x,CallOK Tryz.prog 18 #[.agg ((kc0 k f.Epoch f.N e g.length j a c.length h b d.length i)).toArray] (.agg #[vI y3.Epoch,vI y3.N]) [some (r31 e g),some (r94 a c),some (r91 b d)],(l 1).x = (l 1).x,oC (.agg #[vI a1,vI (IntKind.i64.wrap (y3.N + 1))])]) (fun _ => ⟨rfl,(by have h1 := w_tholeref13_Head F k f e j g a h c b i d e4; exact h1.ok ⟨(.inl ⟨r31 e g,.head _,Cov.refl _⟩),(.inl ⟨r94 a c,(.tail _ (.head _)),Cov.refl _⟩),(.inl ⟨r91 b d,(.tail _ (.tail _ (.head _))),Cov.refl _⟩),trivial⟩),rfl,rfl,trivial⟩) ?_
  intro _
  have hy := Option.some.inj hm
  subst hy
  refine GS.ret (fn := Tryz.f14) [5] [.agg #[vI a1,vI (IntKind.i64.wrap (y3.N + 1))]] [(l 1).x = (l 1).x] rfl Tryz.func14 (by kernel_rfl) ⟨rfl,trivial⟩ (fun w' hs => ?_)
  exact ⟨(),rfl,hs.turnedG (ks := []) rfl rfl⟩

theorem w_tholelaw18_PrimaryTakes (F : Nat) (u : Int) (j : S_api_Version) (e : Option Addr) (q : Nat) (f : List S_api_Entry) (a : Option Addr) (l : Nat) (c : List S_api_Last) (b : Option Addr) (m : Nat) (d : List S_api_Item) (a1 : S_api_Entry) (z : Int) (A : ByteArray) (k : Option Addr) (v : Nat) (o : List UInt8) (n : S_api_Version) {y : Bool} (hm : m_tholelaw18_PrimaryTakes F u j f c d a1 z A o n = some y) : CallG Tryz.prog 3 #[.agg ((kc0 u j.Epoch j.N e f.length q a c.length l b d.length m)).toArray,.agg ((kc1 a1.Version.Epoch a1.Version.N a1.Remove a1.Errno a1.Name a1.Client a1.Number)).toArray,.agg ((kc2 z A k o.length v n.Epoch n.N)).toArray] (X := Unit) (fun (_ : Unit) => .bool y) [] [r31 e f,r94 a c,r91 b d,r5 k o] (fun (_ : Unit) => []) := by
  intro w hg
  rw [m_tholelaw18_PrimaryTakes] at hm
  refine GS.start (S := mayT [] [r31 e f,r94 a c,r91 b d,r5 k o]) (mem := [(1,r31 e f),(2,r94 a c),(3,r91 b d),(4,r5 k o)]) Tryz.func3 rfl Tryz.ntmps3 (Nat.le_of_ble_eq_true rfl) (hg.start rfl) ?_
  refine GS.conv (env' := [(0,.agg ((kc0 u j.Epoch j.N e f.length q a c.length l b d.length m)).toArray),(1,.agg ((kc1 a1.Version.Epoch a1.Version.N a1.Remove a1.Errno a1.Name a1.Client a1.Number)).toArray),(2,.agg ((kc2 z A k o.length v n.Epoch n.N)).toArray)]) rfl rfl ?_
  refine GS.seq ?_
  refine GS.tz (fun s => [(3,pA ((s 0).x) 0),(4,pA ((s 1).x) 0),(5,pA ((s 2).x) 0)]) (fun s => [(1,r31 e f),(2,r94 a c),(3,r91 b d),(4,r5 k o),(5,.cells ((s 0).x) 28 (kc0 u j.Epoch j.N e f.length q a c.length l b d.length m)),(6,.cells ((s 1).x) 31 (kc1 a1.Version.Epoch a1.Version.N a1.Remove a1.Errno a1.Name a1.Client a1.Number)),(7,.cells ((s 2).x) 34 (kc2 z A k o.length v n.Epoch n.N))]) [(0,{ act := .new .var,key := some 5 }),(1,{ act := .new .var,key := some 6 }),(2,{ act := .new .var,key := some 7 })] ?_
  intro s
  refine GS.seq ?_
  refine GS.seq ?_
  refine bnd_elim hm (fun y3 e4 hm => ?_)
  refine GS.tgM (fun _ => [(3,pA ((s 0).x) 0),(4,pA ((s 1).x) 0),(5,pA ((s 2).x) 0),(13,.bool (y3 != 0))]) [(0,{ act := .load 5 0 0 [] }),(1,{ act := .call [1,2,3] (vI y3) })] (fun _ => [(s 0).x = (s 0).x,CallOK Tryz.prog 6 #[.agg ((kc0 u j.Epoch j.N e f.length q a c.length l b d.length m)).toArray] (vI y3) [some (r31 e f),some (r94 a c),some (r91 b d)]]) (fun _ => ⟨rfl,(by have h1 := w_tholeref13_Check F u j e q f a l c b m d e4; exact h1.ok ⟨(.inl ⟨r31 e f,.head _,Cov.refl _⟩),(.inl ⟨r94 a c,(.tail _ (.head _)),Cov.refl _⟩),(.inl ⟨r91 b d,(.tail _ (.tail _ (.head _))),Cov.refl _⟩),trivial⟩),trivial⟩) ?_
  intro _
  refine GS.cond (t := y3 != 0) rfl rfl (fun h5 => ?_) (fun h5 => ?_)
  · replace hm := br_t h5 hm
    refine GS.seq ?_
    refine bnd_elim hm (fun y7 e8 hm => ?_)
    refine GS.tg (fun _ => [(6,.bool true)]) (fun _ => []) [(0,{ act := .call [] (.bool true) })] (fun _ => [CallOK Tryz.prog 7 #[] (.bool true) []]) (fun _ => ⟨(by have h1 := w_tholelaw18_lives F  e8; exact h1.ok trivial),trivial⟩) ?_
    intro _
    have hy := Option.some.inj hm
    subst hy
    refine GS.ret (fn := Tryz.f3) [0] [.bool true] [] rfl Tryz.func3 (by kernel_rfl) trivial (fun w' hs => ?_)
    exact ⟨(),rfl,hs.turnedG (ks := []) rfl rfl⟩
  · replace hm := br_f h5 hm
    refine GS.skip ?_
    refine GS.seq ?_
    refine bnd_elim hm (fun p ah hm => ?_)
    refine GS.open_ ?_
    refine GR.rM (i := 0) 2 (env' := fun _ => [(3,pA ((s 0).x) 0),(4,pA ((s 1).x) 0),(5,pA ((s 2).x) 0),(16,.agg ((kc0 u j.Epoch j.N e f.length q a c.length l b d.length m)).toArray),(17,.agg ((kc1 a1.Version.Epoch a1.Version.N a1.Remove a1.Errno a1.Name a1.Client a1.Number)).toArray)]) (by kernel_rfl) (RunsTo.mk [(0,{ act := .load 5 0 0 [] }),(1,{ act := .load 6 0 0 [] })] [3,4,5,16,17] [1,2,3,4,5,6,7] (fun _ => [(s 0).x = (s 0).x,(s 1).x = (s 1).x]) (fun _ => by kernel_rfl) (fun _ => ⟨rfl,rfl,trivial⟩)) ?_
    intro _
    refine GR.callG (X := Option Addr × Nat × Option Addr × Nat × Option Addr × Nat) (i := 2) (g := 8) (ro := [r31 e f,r94 a c,r91 b d]) (mem' := fun ⟨C,D,E,G,H,I⟩ => [(1,r31 e f),(2,r94 a c),(3,r91 b d),(4,r5 k o),(5,.cells ((s 0).x) 28 (kc0 u j.Epoch j.N e f.length q a c.length l b d.length m)),(6,.cells ((s 1).x) 31 (kc1 a1.Version.Epoch a1.Version.N a1.Remove a1.Errno a1.Name a1.Client a1.Number)),(7,.cells ((s 2).x) 34 (kc2 z A k o.length v n.Epoch n.N)),(8,o31 C D p.2.2.1),(9,o94 E G p.2.2.2.1),(10,o91 H I p.2.2.2.2.1)]) (env' := fun ⟨C,D,E,G,H,I⟩ => [(3,pA ((s 0).x) 0),(4,pA ((s 1).x) 0),(5,pA ((s 2).x) 0),(18,.tuple #[.agg ((kc0 p.1 p.2.1.Epoch p.2.1.N C p.2.2.1.length D E p.2.2.2.1.length G H p.2.2.2.2.1.length I)).toArray,vI p.2.2.2.2.2])]) [] [8,9,10] [3,4,5,18] [1,2,3,4,5,6,7,8,9,10] false (by kernel_rfl) (by kernel_rfl) (by kernel_rfl) (by kernel_rfl) (by kernel_rfl) (fun _ => rfl) (fun _ _ => rfl) ⟨(.inl ⟨1,_,rfl,rfl,Cov.refl _,fun h => by cases h⟩),(.inl ⟨2,_,rfl,rfl,Cov.refl _,fun h => by cases h⟩),(.inl ⟨3,_,rfl,rfl,Cov.refl _,fun h => by cases h⟩),trivial⟩ (by rintro ⟨C,D,E,G,H,I⟩; kernel_rfl) (by rintro ⟨C,D,E,G,H,I⟩; kernel_rfl) (w_primary_Take F u j e q f a l c b m d a1 7 ah) ?_
    rintro ⟨C,D,E,G,H,I⟩
    refine GR.ru (i := 3) 6 (env' := fun B => [(3,pA ((s 0).x) 0),(4,pA ((s 1).x) 0),(5,pA ((s 2).x) 0),(7,pA ((B 6).x) 0),(8,vI p.2.2.2.2.2)]) (mem' := fun B => [(1,r31 e f),(2,r94 a c),(3,r91 b d),(4,r5 k o),(5,.cells ((s 0).x) 28 (kc0 u j.Epoch j.N e f.length q a c.length l b d.length m)),(6,.cells ((s 1).x) 31 (kc1 a1.Version.Epoch a1.Version.N a1.Remove a1.Errno a1.Name a1.Client a1.Number)),(7,.cells ((s 2).x) 34 (kc2 z A k o.length v n.Epoch n.N)),(8,o31 C D p.2.2.1),(9,o94 E G p.2.2.2.1),(10,o91 H I p.2.2.2.2.1),(11,.cells ((B 6).x) 28 (kc0 p.1 p.2.1.Epoch p.2.1.N C p.2.2.1.length D E p.2.2.2.1.length G H p.2.2.2.2.1.length I))]) (by kernel_rfl) (RunsTo.mk [(6,{ act := .new .var,key := some 11 }),(7,{ act := .store 0 0 [],key := some 11 })] [3,4,5,7,8] [1,2,3,4,5,6,7,8,9,10,11] (fun B => [(B 6).x = (B 6).x,oC (.agg ((kc0 p.1 p.2.1.Epoch p.2.1.N C p.2.2.1.length D E p.2.2.2.1.length G H p.2.2.2.2.1.length I)).toArray)]) (fun B => by kernel_rfl) (fun B => ⟨rfl,rfl,trivial⟩)) ?_
    intro B
    refine GR.dn (by kernel_rfl) ?_
    refine GS.seq ?_
    refine bnd_elim hm (fun r ai hm => ?_)
    refine GS.open_ ?_
    refine GR.rM (i := 0) 2 (env' := fun _ => [(3,pA ((s 0).x) 0),(4,pA ((s 1).x) 0),(5,pA ((s 2).x) 0),(7,pA ((B 6).x) 0),(8,vI p.2.2.2.2.2),(22,.agg ((kc0 u j.Epoch j.N e f.length q a c.length l b d.length m)).toArray),(23,.agg ((kc1 a1.Version.Epoch a1.Version.N a1.Remove a1.Errno a1.Name a1.Client a1.Number)).toArray)]) (by kernel_rfl) (RunsTo.mk [(0,{ act := .load 5 0 0 [] }),(1,{ act := .load 6 0 0 [] })] [3,4,5,7,8,22,23] [1,2,3,4,5,6,7,8,9,10,11] (fun _ => [(s 0).x = (s 0).x,(s 1).x = (s 1).x]) (fun _ => by kernel_rfl) (fun _ => ⟨rfl,rfl,trivial⟩)) ?_
    intro _
    refine GR.callG (X := Option Addr × Nat × Option Addr × Nat × Option Addr × Nat) (i := 2) (g := 9) (ro := [r31 e f,r94 a c,r91 b d]) (mem' := fun ⟨K,O,L,P,M,Q⟩ => [(1,r31 e f),(2,r94 a c),(3,r91 b d),(4,r5 k o),(5,.cells ((s 0).x) 28 (kc0 u j.Epoch j.N e f.length q a c.length l b d.length m)),(6,.cells ((s 1).x) 31 (kc1 a1.Version.Epoch a1.Version.N a1.Remove a1.Errno a1.Name a1.Client a1.Number)),(7,.cells ((s 2).x) 34 (kc2 z A k o.length v n.Epoch n.N)),(8,o31 C D p.2.2.1),(9,o94 E G p.2.2.2.1),(10,o91 H I p.2.2.2.2.1),(11,.cells ((B 6).x) 28 (kc0 p.1 p.2.1.Epoch p.2.1.N C p.2.2.1.length D E p.2.2.2.1.length G H p.2.2.2.2.1.length I)),(12,r31 K r.2.2.1),(13,r94 L r.2.2.2.1),(14,r91 M r.2.2.2.2.1)]) (env' := fun ⟨K,O,L,P,M,Q⟩ => [(3,pA ((s 0).x) 0),(4,pA ((s 1).x) 0),(5,pA ((s 2).x) 0),(7,pA ((B 6).x) 0),(8,vI p.2.2.2.2.2),(24,.tuple #[.agg ((kc0 r.1 r.2.1.Epoch r.2.1.N K r.2.2.1.length O L r.2.2.2.1.length P M r.2.2.2.2.1.length Q)).toArray,vI r.2.2.2.2.2])]) [] [12,13,14] [3,4,5,7,8,24] [1,2,3,4,5,6,7,8,9,10,11,12,13,14] true (by kernel_rfl) (by kernel_rfl) (by kernel_rfl) (by kernel_rfl) (by kernel_rfl) (fun _ => rfl) (fun h => by cases h) ⟨(.inl ⟨1,_,rfl,rfl,Cov.refl _,fun _ => rfl⟩),(.inl ⟨2,_,rfl,rfl,Cov.refl _,fun _ => rfl⟩),(.inl ⟨3,_,rfl,rfl,Cov.refl _,fun _ => rfl⟩),trivial⟩ (by rintro ⟨K,O,L,P,M,Q⟩; kernel_rfl) (by rintro ⟨K,O,L,P,M,Q⟩; kernel_rfl) (w_tholeref18_Take F u j e q f a l c b m d a1 7 ai) ?_
    rintro ⟨K,O,L,P,M,Q⟩
    refine GR.ru (i := 3) 6 (env' := fun J => [(3,pA ((s 0).x) 0),(4,pA ((s 1).x) 0),(5,pA ((s 2).x) 0),(7,pA ((B 6).x) 0),(8,vI p.2.2.2.2.2),(9,pA ((J 6).x) 0),(10,vI r.2.2.2.2.2)]) (mem' := fun J => [(1,r31 e f),(2,r94 a c),(3,r91 b d),(4,r5 k o),(5,.cells ((s 0).x) 28 (kc0 u j.Epoch j.N e f.length q a c.length l b d.length m)),(6,.cells ((s 1).x) 31 (kc1 a1.Version.Epoch a1.Version.N a1.Remove a1.Errno a1.Name a1.Client a1.Number)),(7,.cells ((s 2).x) 34 (kc2 z A k o.length v n.Epoch n.N)),(8,o31 C D p.2.2.1),(9,o94 E G p.2.2.2.1),(10,o91 H I p.2.2.2.2.1),(11,.cells ((B 6).x) 28 (kc0 p.1 p.2.1.Epoch p.2.1.N C p.2.2.1.length D E p.2.2.2.1.length G H p.2.2.2.2.1.length I)),(12,r31 K r.2.2.1),(13,r94 L r.2.2.2.1),(14,r91 M r.2.2.2.2.1),(15,.cells ((J 6).x) 28 (kc0 r.1 r.2.1.Epoch r.2.1.N K r.2.2.1.length O L r.2.2.2.1.length P M r.2.2.2.2.1.length Q))]) (by kernel_rfl) (RunsTo.mk [(6,{ act := .new .var,key := some 15 }),(7,{ act := .store 0 0 [],key := some 15 })] [3,4,5,7,8,9,10] [1,2,3,4,5,6,7,8,9,10,11,12,13,14,15] (fun J => [(J 6).x = (J 6).x,oC (.agg ((kc0 r.1 r.2.1.Epoch r.2.1.N K r.2.2.1.length O L r.2.2.2.1.length P M r.2.2.2.2.1.length Q)).toArray)]) (fun J => by kernel_rfl) (fun J => ⟨rfl,rfl,trivial⟩)) ?_
    intro J
    refine GR.dn (by kernel_rfl) ?_
    refine GS.seq ?_
    refine br_elim hm (fun Y hm => ?_) (fun Y hm => ?_)
    · skip
      refine bnd_elim hm (fun R aa hm => ?_)
      refine br_elim hm (fun Z hm => ?_) (fun Z hm => ?_)
      · skip
        refine bnd_elim hm (fun V ac hm => ?_)
        refine bnd_elim hm (fun W ad hm => ?_)
        refine br_elim hm (fun ab hm => ?_) (fun ab hm => ?_)
        · skip
          refine bnd_elim hm (fun T af hm => ?_)
          refine bnd_elim hm (fun U ag hm => ?_)
          refine br_elim hm (fun ae hm => ?_) (fun ae hm => ?_)
          · skip
            refine bnd_elim hm (fun ak aj hm => ?_)
            refine GS.region (env' := fun _ => [(6,.bool true)]) (mem' := fun _ => []) (RunsTo.mkd [(3,{ sp := some (.bool true) }),(4,{ act := .load 11 0 0 [] }),(5,{ act := .load 15 0 0 [] }),(6,{ act := .call [8,9,10,12,13,14] (.bool R) }),(8,{ sp := some (.bool true) }),(9,{ act := .load 5 0 0 [] }),(10,{ act := .load 7 0 0 [] }),(11,{ act := .call [1,2,3,4] (vI V) }),(12,{ act := .load 5 0 0 [] }),(13,{ act := .load 7 0 0 [] }),(14,{ act := .call [1,2,3,4] (vI W) }),(17,{ sp := some (.bool true) }),(18,{ act := .load 5 0 0 [] }),(20,{ act := .load 6 0 0 [] }),(21,{ act := .call [1,2,3] (.agg #[vI T.Epoch,vI T.N]) }),(22,{ act := .load 5 0 0 [] }),(24,{ act := .load 6 0 0 [] }),(25,{ act := .call [1,2,3] (.agg #[vI U.Epoch,vI U.N]) }),(26,{ act := .eq }),(28,{ sp := some (.bool true) }),(29,{ act := .call [] (.bool true) })] [6] [] (fun _ => [((.bool (p.2.2.2.2.2 == r.2.2.2.2.2)) : Value) = .bool true,(B 6).x = (B 6).x,(J 6).x = (J 6).x,CallOK Tryz.prog 10 #[.agg ((kc0 p.1 p.2.1.Epoch p.2.1.N C p.2.2.1.length D E p.2.2.2.1.length G H p.2.2.2.2.1.length I)).toArray,.agg ((kc0 r.1 r.2.1.Epoch r.2.1.N K r.2.2.1.length O L r.2.2.2.1.length P M r.2.2.2.2.1.length Q)).toArray] (.bool R) [some (o31 C D p.2.2.1),some (o94 E G p.2.2.2.1),some (o91 H I p.2.2.2.2.1),some (r31 K r.2.2.1),some (r94 L r.2.2.2.1),some (r91 M r.2.2.2.2.1)],((.bool R) : Value) = .bool true,(s 0).x = (s 0).x,(s 2).x = (s 2).x,CallOK Tryz.prog 11 #[.agg ((kc0 u j.Epoch j.N e f.length q a c.length l b d.length m)).toArray,.agg ((kc2 z A k o.length v n.Epoch n.N)).toArray] (vI V) [some (r31 e f),some (r94 a c),some (r91 b d),some (r5 k o)],(s 0).x = (s 0).x,(s 2).x = (s 2).x,CallOK Tryz.prog 12 #[.agg ((kc0 u j.Epoch j.N e f.length q a c.length l b d.length m)).toArray,.agg ((kc2 z A k o.length v n.Epoch n.N)).toArray] (vI W) [some (r31 e f),some (r94 a c),some (r91 b d),some (r5 k o)],((.bool (V == W)) : Value) = .bool true,(s 0).x = (s 0).x,(s 1).x = (s 1).x,CallOK Tryz.prog 13 #[.agg ((kc0 u j.Epoch j.N e f.length q a c.length l b d.length m)).toArray,vI a1.Client] (.agg #[vI T.Epoch,vI T.N]) [some (r31 e f),some (r94 a c),some (r91 b d)],(s 0).x = (s 0).x,(s 1).x = (s 1).x,CallOK Tryz.prog 14 #[.agg ((kc0 u j.Epoch j.N e f.length q a c.length l b d.length m)).toArray,vI a1.Client] (.agg #[vI U.Epoch,vI U.N]) [some (r31 e f),some (r94 a c),some (r91 b d)],((.bool (S_api_Version.beq T U)) : Value) = .bool true,CallOK Tryz.prog 7 #[] (.bool true) []]) (by kernel_rfl) (by kernel_rfl) (fun _ => by kernel_rfl) (fun _ => ⟨bool_eq Y,rfl,rfl,(by have h1 := w_tholeref13_Same F p.1 p.2.1 C D p.2.2.1 E G p.2.2.2.1 H I p.2.2.2.2.1 r.1 r.2.1 K O r.2.2.1 L P r.2.2.2.1 M Q r.2.2.2.2.1 aa; exact h1.ok ⟨(.inl ⟨o31 C D p.2.2.1,.head _,Cov.osl_rd⟩),(.inl ⟨o94 E G p.2.2.2.1,(.tail _ (.head _)),Cov.osl_rd⟩),(.inl ⟨o91 H I p.2.2.2.2.1,(.tail _ (.tail _ (.head _))),Cov.osl_rd⟩),(.inl ⟨r31 K r.2.2.1,(.tail _ (.tail _ (.tail _ (.head _)))),Cov.refl _⟩),(.inl ⟨r94 L r.2.2.2.1,(.tail _ (.tail _ (.tail _ (.tail _ (.head _))))),Cov.refl _⟩),(.inl ⟨r91 M r.2.2.2.2.1,(.tail _ (.tail _ (.tail _ (.tail _ (.tail _ (.head _)))))),Cov.refl _⟩),trivial⟩),bool_eq Z,rfl,rfl,(by have h1 := w_primary_Verdict_2 F u j e q f a l c b m d z A k v o n ac; exact h1.ok ⟨(.inl ⟨r31 e f,.head _,Cov.refl _⟩),(.inl ⟨r94 a c,(.tail _ (.head _)),Cov.refl _⟩),(.inl ⟨r91 b d,(.tail _ (.tail _ (.head _))),Cov.refl _⟩),(.inl ⟨r5 k o,(.tail _ (.tail _ (.tail _ (.head _)))),Cov.refl _⟩),trivial⟩),rfl,rfl,(by have h1 := w_tholeref18_Verdict F u j e q f a l c b m d z A k v o n ad; exact h1.ok ⟨(.inl ⟨r31 e f,.head _,Cov.refl _⟩),(.inl ⟨r94 a c,(.tail _ (.head _)),Cov.refl _⟩),(.inl ⟨r91 b d,(.tail _ (.tail _ (.head _))),Cov.refl _⟩),(.inl ⟨r5 k o,(.tail _ (.tail _ (.tail _ (.head _)))),Cov.refl _⟩),trivial⟩),bool_eq ab,rfl,rfl,(by have h1 := w_primary_Next_2 F u j e q f a l c b m d a1.Client af; exact h1.ok ⟨(.inl ⟨r31 e f,.head _,Cov.refl _⟩),(.inl ⟨r94 a c,(.tail _ (.head _)),Cov.refl _⟩),(.inl ⟨r91 b d,(.tail _ (.tail _ (.head _))),Cov.refl _⟩),trivial⟩),rfl,rfl,(by have h1 := w_tholeref18_Next F u j e q f a l c b m d a1.Client ag; exact h1.ok ⟨(.inl ⟨r31 e f,.head _,Cov.refl _⟩),(.inl ⟨r94 a c,(.tail _ (.head _)),Cov.refl _⟩),(.inl ⟨r91 b d,(.tail _ (.tail _ (.head _))),Cov.refl _⟩),trivial⟩),bool_eq ae,(by have h1 := w_tholelaw18_lives F  aj; exact h1.ok trivial),trivial⟩)) ?_
            intro _
            have hy := Option.some.inj hm
            subst hy
            refine GS.ret (fn := Tryz.f3) [0] [.bool true] [] rfl Tryz.func3 (by kernel_rfl) trivial (fun w' hs => ?_)
            exact ⟨(),rfl,hs.turnedG (ks := []) rfl rfl⟩
          · skip
            refine GS.region (env' := fun _ => [(6,.bool false)]) (mem' := fun _ => []) (RunsTo.mkd [(3,{ sp := some (.bool true) }),(4,{ act := .load 11 0 0 [] }),(5,{ act := .load 15 0 0 [] }),(6,{ act := .call [8,9,10,12,13,14] (.bool R) }),(8,{ sp := some (.bool true) }),(9,{ act := .load 5 0 0 [] }),(10,{ act := .load 7 0 0 [] }),(11,{ act := .call [1,2,3,4] (vI V) }),(12,{ act := .load 5 0 0 [] }),(13,{ act := .load 7 0 0 [] }),(14,{ act := .call [1,2,3,4] (vI W) }),(17,{ sp := some (.bool true) }),(18,{ act := .load 5 0 0 [] }),(20,{ act := .load 6 0 0 [] }),(21,{ act := .call [1,2,3] (.agg #[vI T.Epoch,vI T.N]) }),(22,{ act := .load 5 0 0 [] }),(24,{ act := .load 6 0 0 [] }),(25,{ act := .call [1,2,3] (.agg #[vI U.Epoch,vI U.N]) }),(26,{ act := .eq }),(28,{ sp := some (.bool false) })] [6] [] (fun _ => [((.bool (p.2.2.2.2.2 == r.2.2.2.2.2)) : Value) = .bool true,(B 6).x = (B 6).x,(J 6).x = (J 6).x,CallOK Tryz.prog 10 #[.agg ((kc0 p.1 p.2.1.Epoch p.2.1.N C p.2.2.1.length D E p.2.2.2.1.length G H p.2.2.2.2.1.length I)).toArray,.agg ((kc0 r.1 r.2.1.Epoch r.2.1.N K r.2.2.1.length O L r.2.2.2.1.length P M r.2.2.2.2.1.length Q)).toArray] (.bool R) [some (o31 C D p.2.2.1),some (o94 E G p.2.2.2.1),some (o91 H I p.2.2.2.2.1),some (r31 K r.2.2.1),some (r94 L r.2.2.2.1),some (r91 M r.2.2.2.2.1)],((.bool R) : Value) = .bool true,(s 0).x = (s 0).x,(s 2).x = (s 2).x,CallOK Tryz.prog 11 #[.agg ((kc0 u j.Epoch j.N e f.length q a c.length l b d.length m)).toArray,.agg ((kc2 z A k o.length v n.Epoch n.N)).toArray] (vI V) [some (r31 e f),some (r94 a c),some (r91 b d),some (r5 k o)],(s 0).x = (s 0).x,(s 2).x = (s 2).x,CallOK Tryz.prog 12 #[.agg ((kc0 u j.Epoch j.N e f.length q a c.length l b d.length m)).toArray,.agg ((kc2 z A k o.length v n.Epoch n.N)).toArray] (vI W) [some (r31 e f),some (r94 a c),some (r91 b d),some (r5 k o)],((.bool (V == W)) : Value) = .bool true,(s 0).x = (s 0).x,(s 1).x = (s 1).x,CallOK Tryz.prog 13 #[.agg ((kc0 u j.Epoch j.N e f.length q a c.length l b d.length m)).toArray,vI a1.Client] (.agg #[vI T.Epoch,vI T.N]) [some (r31 e f),some (r94 a c),some (r91 b d)],(s 0).x = (s 0).x,(s 1).x = (s 1).x,CallOK Tryz.prog 14 #[.agg ((kc0 u j.Epoch j.N e f.length q a c.length l b d.length m)).toArray,vI a1.Client] (.agg #[vI U.Epoch,vI U.N]) [some (r31 e f),some (r94 a c),some (r91 b d)],((.bool (S_api_Version.beq T U)) : Value) = .bool false]) (by kernel_rfl) (by kernel_rfl) (fun _ => by kernel_rfl) (fun _ => ⟨bool_eq Y,rfl,rfl,(by have h1 := w_tholeref13_Same F p.1 p.2.1 C D p.2.2.1 E G p.2.2.2.1 H I p.2.2.2.2.1 r.1 r.2.1 K O r.2.2.1 L P r.2.2.2.1 M Q r.2.2.2.2.1 aa; exact h1.ok ⟨(.inl ⟨o31 C D p.2.2.1,.head _,Cov.osl_rd⟩),(.inl ⟨o94 E G p.2.2.2.1,(.tail _ (.head _)),Cov.osl_rd⟩),(.inl ⟨o91 H I p.2.2.2.2.1,(.tail _ (.tail _ (.head _))),Cov.osl_rd⟩),(.inl ⟨r31 K r.2.2.1,(.tail _ (.tail _ (.tail _ (.head _)))),Cov.refl _⟩),(.inl ⟨r94 L r.2.2.2.1,(.tail _ (.tail _ (.tail _ (.tail _ (.head _))))),Cov.refl _⟩),(.inl ⟨r91 M r.2.2.2.2.1,(.tail _ (.tail _ (.tail _ (.tail _ (.tail _ (.head _)))))),Cov.refl _⟩),trivial⟩),bool_eq Z,rfl,rfl,(by have h1 := w_primary_Verdict_2 F u j e q f a l c b m d z A k v o n ac; exact h1.ok ⟨(.inl ⟨r31 e f,.head _,Cov.refl _⟩),(.inl ⟨r94 a c,(.tail _ (.head _)),Cov.refl _⟩),(.inl ⟨r91 b d,(.tail _ (.tail _ (.head _))),Cov.refl _⟩),(.inl ⟨r5 k o,(.tail _ (.tail _ (.tail _ (.head _)))),Cov.refl _⟩),trivial⟩),rfl,rfl,(by have h1 := w_tholeref18_Verdict F u j e q f a l c b m d z A k v o n ad; exact h1.ok ⟨(.inl ⟨r31 e f,.head _,Cov.refl _⟩),(.inl ⟨r94 a c,(.tail _ (.head _)),Cov.refl _⟩),(.inl ⟨r91 b d,(.tail _ (.tail _ (.head _))),Cov.refl _⟩),(.inl ⟨r5 k o,(.tail _ (.tail _ (.tail _ (.head _)))),Cov.refl _⟩),trivial⟩),bool_eq ab,rfl,rfl,(by have h1 := w_primary_Next_2 F u j e q f a l c b m d a1.Client af; exact h1.ok ⟨(.inl ⟨r31 e f,.head _,Cov.refl _⟩),(.inl ⟨r94 a c,(.tail _ (.head _)),Cov.refl _⟩),(.inl ⟨r91 b d,(.tail _ (.tail _ (.head _))),Cov.refl _⟩),trivial⟩),rfl,rfl,(by have h1 := w_tholeref18_Next F u j e q f a l c b m d a1.Client ag; exact h1.ok ⟨(.inl ⟨r31 e f,.head _,Cov.refl _⟩),(.inl ⟨r94 a c,(.tail _ (.head _)),Cov.refl _⟩),(.inl ⟨r91 b d,(.tail _ (.tail _ (.head _))),Cov.refl _⟩),trivial⟩),bool_eq ae,trivial⟩)) ?_
            intro _
            have hy := Option.some.inj hm
            subst hy
            refine GS.ret (fn := Tryz.f3) [0] [.bool false] [] rfl Tryz.func3 (by kernel_rfl) trivial (fun w' hs => ?_)
            exact ⟨(),rfl,hs.turnedG (ks := []) rfl rfl⟩
        · skip
          refine GS.region (env' := fun _ => [(6,.bool false)]) (mem' := fun _ => []) (RunsTo.mkd [(3,{ sp := some (.bool true) }),(4,{ act := .load 11 0 0 [] }),(5,{ act := .load 15 0 0 [] }),(6,{ act := .call [8,9,10,12,13,14] (.bool R) }),(8,{ sp := some (.bool true) }),(9,{ act := .load 5 0 0 [] }),(10,{ act := .load 7 0 0 [] }),(11,{ act := .call [1,2,3,4] (vI V) }),(12,{ act := .load 5 0 0 [] }),(13,{ act := .load 7 0 0 [] }),(14,{ act := .call [1,2,3,4] (vI W) }),(17,{ sp := some (.bool false) })] [6] [] (fun _ => [((.bool (p.2.2.2.2.2 == r.2.2.2.2.2)) : Value) = .bool true,(B 6).x = (B 6).x,(J 6).x = (J 6).x,CallOK Tryz.prog 10 #[.agg ((kc0 p.1 p.2.1.Epoch p.2.1.N C p.2.2.1.length D E p.2.2.2.1.length G H p.2.2.2.2.1.length I)).toArray,.agg ((kc0 r.1 r.2.1.Epoch r.2.1.N K r.2.2.1.length O L r.2.2.2.1.length P M r.2.2.2.2.1.length Q)).toArray] (.bool R) [some (o31 C D p.2.2.1),some (o94 E G p.2.2.2.1),some (o91 H I p.2.2.2.2.1),some (r31 K r.2.2.1),some (r94 L r.2.2.2.1),some (r91 M r.2.2.2.2.1)],((.bool R) : Value) = .bool true,(s 0).x = (s 0).x,(s 2).x = (s 2).x,CallOK Tryz.prog 11 #[.agg ((kc0 u j.Epoch j.N e f.length q a c.length l b d.length m)).toArray,.agg ((kc2 z A k o.length v n.Epoch n.N)).toArray] (vI V) [some (r31 e f),some (r94 a c),some (r91 b d),some (r5 k o)],(s 0).x = (s 0).x,(s 2).x = (s 2).x,CallOK Tryz.prog 12 #[.agg ((kc0 u j.Epoch j.N e f.length q a c.length l b d.length m)).toArray,.agg ((kc2 z A k o.length v n.Epoch n.N)).toArray] (vI W) [some (r31 e f),some (r94 a c),some (r91 b d),some (r5 k o)],((.bool (V == W)) : Value) = .bool false]) (by kernel_rfl) (by kernel_rfl) (fun _ => by kernel_rfl) (fun _ => ⟨bool_eq Y,rfl,rfl,(by have h1 := w_tholeref13_Same F p.1 p.2.1 C D p.2.2.1 E G p.2.2.2.1 H I p.2.2.2.2.1 r.1 r.2.1 K O r.2.2.1 L P r.2.2.2.1 M Q r.2.2.2.2.1 aa; exact h1.ok ⟨(.inl ⟨o31 C D p.2.2.1,.head _,Cov.osl_rd⟩),(.inl ⟨o94 E G p.2.2.2.1,(.tail _ (.head _)),Cov.osl_rd⟩),(.inl ⟨o91 H I p.2.2.2.2.1,(.tail _ (.tail _ (.head _))),Cov.osl_rd⟩),(.inl ⟨r31 K r.2.2.1,(.tail _ (.tail _ (.tail _ (.head _)))),Cov.refl _⟩),(.inl ⟨r94 L r.2.2.2.1,(.tail _ (.tail _ (.tail _ (.tail _ (.head _))))),Cov.refl _⟩),(.inl ⟨r91 M r.2.2.2.2.1,(.tail _ (.tail _ (.tail _ (.tail _ (.tail _ (.head _)))))),Cov.refl _⟩),trivial⟩),bool_eq Z,rfl,rfl,(by have h1 := w_primary_Verdict_2 F u j e q f a l c b m d z A k v o n ac; exact h1.ok ⟨(.inl ⟨r31 e f,.head _,Cov.refl _⟩),(.inl ⟨r94 a c,(.tail _ (.head _)),Cov.refl _⟩),(.inl ⟨r91 b d,(.tail _ (.tail _ (.head _))),Cov.refl _⟩),(.inl ⟨r5 k o,(.tail _ (.tail _ (.tail _ (.head _)))),Cov.refl _⟩),trivial⟩),rfl,rfl,(by have h1 := w_tholeref18_Verdict F u j e q f a l c b m d z A k v o n ad; exact h1.ok ⟨(.inl ⟨r31 e f,.head _,Cov.refl _⟩),(.inl ⟨r94 a c,(.tail _ (.head _)),Cov.refl _⟩),(.inl ⟨r91 b d,(.tail _ (.tail _ (.head _))),Cov.refl _⟩),(.inl ⟨r5 k o,(.tail _ (.tail _ (.tail _ (.head _)))),Cov.refl _⟩),trivial⟩),bool_eq ab,trivial⟩)) ?_
          intro _
          have hy := Option.some.inj hm
          subst hy
          refine GS.ret (fn := Tryz.f3) [0] [.bool false] [] rfl Tryz.func3 (by kernel_rfl) trivial (fun w' hs => ?_)
          exact ⟨(),rfl,hs.turnedG (ks := []) rfl rfl⟩
      · skip
        refine GS.region (env' := fun _ => [(6,.bool false)]) (mem' := fun _ => []) (RunsTo.mkd [(3,{ sp := some (.bool true) }),(4,{ act := .load 11 0 0 [] }),(5,{ act := .load 15 0 0 [] }),(6,{ act := .call [8,9,10,12,13,14] (.bool R) }),(8,{ sp := some (.bool false) })] [6] [] (fun _ => [((.bool (p.2.2.2.2.2 == r.2.2.2.2.2)) : Value) = .bool true,(B 6).x = (B 6).x,(J 6).x = (J 6).x,CallOK Tryz.prog 10 #[.agg ((kc0 p.1 p.2.1.Epoch p.2.1.N C p.2.2.1.length D E p.2.2.2.1.length G H p.2.2.2.2.1.length I)).toArray,.agg ((kc0 r.1 r.2.1.Epoch r.2.1.N K r.2.2.1.length O L r.2.2.2.1.length P M r.2.2.2.2.1.length Q)).toArray] (.bool R) [some (o31 C D p.2.2.1),some (o94 E G p.2.2.2.1),some (o91 H I p.2.2.2.2.1),some (r31 K r.2.2.1),some (r94 L r.2.2.2.1),some (r91 M r.2.2.2.2.1)],((.bool R) : Value) = .bool false]) (by kernel_rfl) (by kernel_rfl) (fun _ => by kernel_rfl) (fun _ => ⟨bool_eq Y,rfl,rfl,(by have h1 := w_tholeref13_Same F p.1 p.2.1 C D p.2.2.1 E G p.2.2.2.1 H I p.2.2.2.2.1 r.1 r.2.1 K O r.2.2.1 L P r.2.2.2.1 M Q r.2.2.2.2.1 aa; exact h1.ok ⟨(.inl ⟨o31 C D p.2.2.1,.head _,Cov.osl_rd⟩),(.inl ⟨o94 E G p.2.2.2.1,(.tail _ (.head _)),Cov.osl_rd⟩),(.inl ⟨o91 H I p.2.2.2.2.1,(.tail _ (.tail _ (.head _))),Cov.osl_rd⟩),(.inl ⟨r31 K r.2.2.1,(.tail _ (.tail _ (.tail _ (.head _)))),Cov.refl _⟩),(.inl ⟨r94 L r.2.2.2.1,(.tail _ (.tail _ (.tail _ (.tail _ (.head _))))),Cov.refl _⟩),(.inl ⟨r91 M r.2.2.2.2.1,(.tail _ (.tail _ (.tail _ (.tail _ (.tail _ (.head _)))))),Cov.refl _⟩),trivial⟩),bool_eq Z,trivial⟩)) ?_
        intro _
        have hy := Option.some.inj hm
        subst hy
        refine GS.ret (fn := Tryz.f3) [0] [.bool false] [] rfl Tryz.func3 (by kernel_rfl) trivial (fun w' hs => ?_)
        exact ⟨(),rfl,hs.turnedG (ks := []) rfl rfl⟩
    · skip
      refine GS.region (env' := fun _ => [(6,.bool false)]) (mem' := fun _ => []) (RunsTo.mkd [(3,{ sp := some (.bool false) })] [6] [] (fun _ => [((.bool (p.2.2.2.2.2 == r.2.2.2.2.2)) : Value) = .bool false]) (by kernel_rfl) (by kernel_rfl) (fun _ => by kernel_rfl) (fun _ => ⟨bool_eq Y,trivial⟩)) ?_
      intro _
      have hy := Option.some.inj hm
      subst hy
      refine GS.ret (fn := Tryz.f3) [0] [.bool false] [] rfl Tryz.func3 (by kernel_rfl) trivial (fun w' hs => ?_)
      exact ⟨(),rfl,hs.turnedG (ks := []) rfl rfl⟩

end Go.Proofs.YtjnbkhnebmlilaaGreat
