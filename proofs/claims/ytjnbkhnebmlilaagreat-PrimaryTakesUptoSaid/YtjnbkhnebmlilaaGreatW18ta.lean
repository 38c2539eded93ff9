/-
  CHAPTER 18t: the functions do what their models say (1).
-/
import Derived.Test.YtjnbkhnebmlilaaGreatE18t
set_option linter.unusedVariables false
set_option linter.unusedSimpArgs false
set_option maxRecDepth 100000
set_option maxHeartbeats 8000000
namespace Go.Proofs.YtjnbkhnebmlilaaGreat
open Go Go.RowKit Sx

theorem w_tholeref13_below (F : Nat) (a0 : S_api_Version) {y : Bool} (hm : m_tholeref13_below F a0 = some y) : CallG Tryz.prog 27 #[.agg #[vI a0.Epoch,vI a0.N]] (X := Unit) (fun (_ : Unit) => .bool y) [] [] (fun (_ : Unit) => []) := by
  intro w hg
  rw [m_tholeref13_below] at hm
  refine GS.start (S := mayT [] []) (mem := []) Tryz.func27 rfl Tryz.ntmps27 (Nat.le_of_ble_eq_true rfl) (hg.start rfl) ?_
  refine GS.conv (env' := [(0,.agg #[vI a0.Epoch,vI a0.N])]) rfl rfl ?_
  refine GS.seq ?_
  refine GS.tz (fun a => [(1,pA ((a 0).x) 0)]) (fun a => [(1,.cells ((a 0).x) 23 [vI a0.Epoch,vI a0.N])]) [(0,{ act := .new .var,key := some 1 })] ?_
  intro a
  refine GS.seq ?_
  refine br_elim hm (fun h3 hm => ?_) (fun h3 hm => ?_)
  · skip
    refine GS.tg (fun _ => [(2,.bool true)]) (fun _ => []) [(1,{ act := .load 1 0 0 [] }),(3,{ sp := some (.bool true) })] (fun _ => [(a 0).x = (a 0).x,((.bool (decide (a0.Epoch < 0))) : Value) = .bool true]) (fun _ => ⟨rfl,bool_eq h3,trivial⟩) ?_
    intro _
    have hy := Option.some.inj hm
    subst hy
    refine GS.ret (fn := Tryz.f27) [0] [.bool true] [] rfl Tryz.func27 (by kernel_rfl) trivial (fun w' hs => ?_)
    exact ⟨(),rfl,hs.turnedG (ks := []) rfl rfl⟩
  · skip
    refine GS.tg (fun _ => [(2,.bool (decide (a0.N < 0)))]) (fun _ => []) [(1,{ act := .load 1 0 0 [] }),(3,{ sp := some (.bool false) }),(5,{ act := .load 1 0 0 [] })] (fun _ => [(a 0).x = (a 0).x,((.bool (decide (a0.Epoch < 0))) : Value) = .bool false,(a 0).x = (a 0).x]) (fun _ => ⟨rfl,bool_eq h3,rfl,trivial⟩) ?_
    intro _
    have hy := Option.some.inj hm
    subst hy
    refine GS.ret (fn := Tryz.f27) [0] [.bool (decide (a0.N < 0))] [] rfl Tryz.func27 (by kernel_rfl) trivial (fun w' hs => ?_)
    exact ⟨(),rfl,hs.turnedG (ks := []) rfl rfl⟩

theorem w_tholeref13_Cmp (F : Nat) (a0 : S_api_Version) (a1 : S_api_Version) {y : Int} (hm : m_tholeref13_Cmp F a0 a1 = some y) : CallG Tryz.prog 28 #[.agg #[vI a0.Epoch,vI a0.N],.agg #[vI a1.Epoch,vI a1.N]] (X := Unit) (fun (_ : Unit) => vI y) [] [] (fun (_ : Unit) => []) := by
  intro w hg
  rw [m_tholeref13_Cmp] at hm
  refine GS.start (S := mayT [] []) (mem := []) Tryz.func28 rfl Tryz.ntmps28 (Nat.le_of_ble_eq_true rfl) (hg.start rfl) ?_
  refine GS.conv (env' := [(0,.agg #[vI a0.Epoch,vI a0.N]),(1,.agg #[vI a1.Epoch,vI a1.N])]) rfl rfl ?_
  refine GS.seq ?_
  refine GS.tz (fun a => [(2,pA ((a 0).x) 0),(3,pA ((a 1).x) 0)]) (fun a => [(1,.cells ((a 0).x) 23 [vI a0.Epoch,vI a0.N]),(2,.cells ((a 1).x) 23 [vI a1.Epoch,vI a1.N])]) [(0,{ act := .new .var,key := some 1 }),(1,{ act := .new .var,key := some 2 })] ?_
  intro a
  refine GS.seq ?_
  refine GS.block ?_
  refine GS.seq ?_
  refine GS.seq ?_
  refine GS.tgM (fun _ => [(2,pA ((a 0).x) 0),(3,pA ((a 1).x) 0),(5,.bool (decide (a0.Epoch < a1.Epoch)))]) [(1,{ act := .load 1 0 0 [] }),(3,{ act := .load 2 0 0 [] })] (fun _ => [(a 0).x = (a 0).x,(a 1).x = (a 1).x]) (fun _ => ⟨rfl,rfl,trivial⟩) ?_
  intro _
  refine jn_elim hm (fun J9 f hm => ?_)
  refine GS.cut (ι := Bool) (I := fun (b : Bool) => J9 b = some y) (E := fun (b : Bool) => [(2,pA ((a 0).x) 0),(3,pA ((a 1).x) 0),(5,.bool b)]) (M := fun (b : Bool) => [(1,.cells ((a 0).x) 23 [vI a0.Epoch,vI a0.N]),(2,.cells ((a 1).x) 23 [vI a1.Epoch,vI a1.N])]) ?_ ?_
  rotate_left
  · intro c
    refine GS.cond (t := decide (a0.Epoch < a1.Epoch)) rfl rfl (fun h3 => ?_) (fun h3 => ?_)
    · replace hm := br_t h3 hm
      refine GS.skip ?_
      refine GS.rekey (env' := [(2,pA ((a 0).x) 0),(3,pA ((a 1).x) 0),(5,.bool (decide (a0.Epoch < a1.Epoch)))]) (mem' := [(1,.cells ((a 0).x) 23 [vI a0.Epoch,vI a0.N]),(2,.cells ((a 1).x) 23 [vI a1.Epoch,vI a1.N])]) [2,3,5] [(1,1),(2,2)] (by kernel_rfl) (by kernel_rfl) rfl ?_
      exact c (decide (a0.Epoch < a1.Epoch)) hm
    · replace hm := br_f h3 hm
      refine br_elim hm (fun h5 hm => ?_) (fun h5 hm => ?_)
      · skip
        refine GS.tgM (fun _ => [(2,pA ((a 0).x) 0),(3,pA ((a 1).x) 0),(5,.bool (decide (a0.N < a1.N)))]) [(1,{ act := .load 1 0 0 [] }),(3,{ act := .load 2 0 0 [] }),(5,{ sp := some (.bool true) }),(7,{ act := .load 1 0 0 [] }),(9,{ act := .load 2 0 0 [] })] (fun _ => [(a 0).x = (a 0).x,(a 1).x = (a 1).x,((.bool (a0.Epoch == a1.Epoch)) : Value) = .bool true,(a 0).x = (a 0).x,(a 1).x = (a 1).x]) (fun _ => ⟨rfl,rfl,bool_eq h5,rfl,rfl,trivial⟩) ?_
        intro _
        refine GS.rekey (env' := [(2,pA ((a 0).x) 0),(3,pA ((a 1).x) 0),(5,.bool (decide (a0.N < a1.N)))]) (mem' := [(1,.cells ((a 0).x) 23 [vI a0.Epoch,vI a0.N]),(2,.cells ((a 1).x) 23 [vI a1.Epoch,vI a1.N])]) [2,3,5] [(1,1),(2,2)] (by kernel_rfl) (by kernel_rfl) rfl ?_
        exact c (decide (a0.N < a1.N)) hm
      · skip
        refine GS.tgM (fun _ => [(2,pA ((a 0).x) 0),(3,pA ((a 1).x) 0),(5,.bool false)]) [(1,{ act := .load 1 0 0 [] }),(3,{ act := .load 2 0 0 [] }),(5,{ sp := some (.bool false) })] (fun _ => [(a 0).x = (a 0).x,(a 1).x = (a 1).x,((.bool (a0.Epoch == a1.Epoch)) : Value) = .bool false]) (fun _ => ⟨rfl,rfl,bool_eq h5,trivial⟩) ?_
        intro _
        refine GS.rekey (env' := [(2,pA ((a 0).x) 0),(3,pA ((a 1).x) 0),(5,.bool false)]) (mem' := [(1,.cells ((a 0).x) 23 [vI a0.Epoch,vI a0.N]),(2,.cells ((a 1).x) 23 [vI a1.Epoch,vI a1.N])]) [2,3,5] [(1,1),(2,2)] (by kernel_rfl) (by kernel_rfl) rfl ?_
        exact c false hm
  · rintro b hm
    replace hm := (f _).symm.trans hm
    try dsimp only at hm
    refine GS.cond (t := b) rfl rfl (fun d => ?_) (fun d => ?_)
    · replace hm := br_t d hm
      refine GS.seq ?_
      refine GS.tz (fun _ => [(4,vI (-1))]) (fun _ => []) [] ?_
      intro _
      have hy := Option.some.inj hm
      subst hy
      refine GS.ret (fn := Tryz.f28) [0] [vI (-1)] [] rfl Tryz.func28 (by kernel_rfl) trivial (fun w' hs => ?_)
      exact ⟨(),rfl,hs.turnedG (ks := []) rfl rfl⟩
    · replace hm := br_f d hm
      refine GS.seq ?_
      refine GS.tg (fun _ => [(23,.bool (S_api_Version.beq a0 a1))]) (fun _ => []) [(0,{ act := .load 1 0 0 [] }),(1,{ act := .load 2 0 0 [] }),(2,{ act := .eq })] (fun _ => [(a 0).x = (a 0).x,(a 1).x = (a 1).x]) (fun _ => ⟨rfl,rfl,trivial⟩) ?_
      intro _
      refine GS.cond (t := S_api_Version.beq a0 a1) rfl rfl (fun e => ?_) (fun e => ?_)
      · replace hm := br_t e hm
        refine GS.seq ?_
        refine GS.tzM (fun _ => [(4,vI 0)]) [] ?_
        intro _
        have hy := Option.some.inj hm
        subst hy
        refine GS.ret (fn := Tryz.f28) [0] [vI 0] [] rfl Tryz.func28 (by kernel_rfl) trivial (fun w' hs => ?_)
        exact ⟨(),rfl,hs.turnedG (ks := []) rfl rfl⟩
      · replace hm := br_f e hm
        refine GS.skip ?_
        refine GS.inBlock ?_
        refine GS.seq ?_
        refine GS.tzM (fun _ => [(4,vI 1)]) [] ?_
        intro _
        have hy := Option.some.inj hm
        subst hy
        refine GS.ret (fn := Tryz.f28) [0] [vI 1] [] rfl Tryz.func28 (by kernel_rfl) trivial (fun w' hs => ?_)
        exact ⟨(),rfl,hs.turnedG (ks := []) rfl rfl⟩

theorem w_tholeref09_Good (F : Nat) (a0 : ByteArray) {y : Bool} (hm : m_tholeref09_Good F a0 = some y) : CallG Tryz.prog 29 #[.string a0] (X := Unit) (fun (_ : Unit) => .bool y) [] [] (fun (_ : Unit) => []) := by
  intro w hg
  rw [m_tholeref09_Good] at hm
  refine GS.start (S := mayT [] []) (mem := []) Tryz.func29 rfl Tryz.ntmps29 (Nat.le_of_ble_eq_true rfl) (hg.start rfl) ?_
  refine GS.conv (env' := [(0,.string a0)]) rfl rfl ?_
  refine GS.seq ?_
  refine GS.tzM (fun _ => [(0,.string a0)]) [] ?_
  intro _
  refine GS.seq ?_
  refine GS.seq ?_
  refine GS.tzM (fun _ => [(0,.string a0),(3,vI 0)]) [] ?_
  intro _
  refine GS.block ?_
  refine GS.loop ?_
  refine grd_elim hm (fun l hm => ?_)
  refine GS.rekey (env' := [(0,.string a0),(3,vI 0)]) (mem' := []) [0,3] [] (by kernel_rfl) (by kernel_rfl) rfl ?_
  refine loopC_elim hm (fun st44 fn45 hst46 hfn47 hm => ?_)
  refine GS.loopInv (ι := Nat × Nat) (I := fun ⟨b,a⟩ => (((a0.size : Int)) - (a : Int) : Int).toNat = b ∧ loopC st44 fn45 b a () = some y) (μ := fun ⟨b,a⟩ => b) (E := fun ⟨b,a⟩ => [(0,.string a0),(3,vI (a : Int))]) (M := fun ⟨b,a⟩ => []) ?_ ⟨(Int.toNat ((a0.size : Int) - (0 : Int))),0⟩ ⟨rfl,hm⟩
  rintro ⟨b,a⟩ ⟨d,hm⟩ i
  cases b with
  | zero =>
    replace hm := (hfn47 _ _).symm.trans hm
    try dsimp only at hm
    refine GS.seq ?_
    refine GS.seq ?_
    refine GS.tzM (fun _ => [(0,.string a0),(3,vI (a : Int)),(7,.bool (decide ((a : Int) < (a0.size : Int))))]) [] ?_
    intro _
    refine GS.cond (t := decide ((a : Int) < (a0.size : Int))) rfl rfl (fun m => absb m (cnt0 d)) (fun _ => ?_)
    refine GS.exit rfl ?_
    refine GS.seq ?_
    refine br_elim hm (fun e hm => ?_) (fun e hm => ?_)
    · skip
      refine GS.tgM (fun _ => [(2,.bool (decide ((a0.size : Int) ≤ 64)))]) [(3,{ sp := some (.bool true) })] (fun _ => [((.bool (decide ((a0.size : Int) ≥ 1))) : Value) = .bool true]) (fun _ => ⟨bool_eq e,trivial⟩) ?_
      intro _
      have hy := Option.some.inj hm
      subst hy
      refine GS.ret (fn := Tryz.f29) [0] [.bool (decide ((a0.size : Int) ≤ 64))] [] rfl Tryz.func29 (by kernel_rfl) trivial (fun w' hs => ?_)
      exact ⟨(),rfl,hs.turnedG (ks := []) rfl rfl⟩
    · skip
      refine GS.tgM (fun _ => [(2,.bool false)]) [(3,{ sp := some (.bool false) })] (fun _ => [((.bool (decide ((a0.size : Int) ≥ 1))) : Value) = .bool false]) (fun _ => ⟨bool_eq e,trivial⟩) ?_
      intro _
      have hy := Option.some.inj hm
      subst hy
      refine GS.ret (fn := Tryz.f29) [0] [.bool false] [] rfl Tryz.func29 (by kernel_rfl) trivial (fun w' hs => ?_)
      exact ⟨(),rfl,hs.turnedG (ks := []) rfl rfl⟩
  | succ b =>
    replace hm := (hst46 _ _ _).symm.trans hm
    try dsimp only at hm
    refine GS.seq ?_
    refine GS.seq ?_
    refine GS.tzM (fun _ => [(0,.string a0),(3,vI (a : Int)),(7,.bool (decide ((a : Int) < (a0.size : Int))))]) [] ?_
    intro _
    refine GS.cond (t := decide ((a : Int) < (a0.size : Int))) rfl rfl (fun _ => ?_) (fun n => absb (cnt1 d) n)
    refine GS.skip ?_
    refine GS.seq ?_
    refine GS.block ?_
    refine GS.seq ?_
    refine jn_elim hm (fun o j hm => ?_)
    refine GS.cut (ι := Bool) (I := fun (c : Bool) => o c = some y) (E := fun (c : Bool) => [(0,.string a0),(3,vI (a : Int)),(19,.bool c)]) (M := fun (c : Bool) => []) ?_ ?_
    rotate_left
    · intro k
      refine grd_elim hm (fun f hm => ?_)
      refine br_elim hm (fun g hm => ?_) (fun g hm => ?_)
      · skip
        refine GS.tgM (fun _ => [(0,.string a0),(3,vI (a : Int)),(19,.bool true)]) [(2,{ act := .elt a }),(4,{ sp := some (.bool true) })] (fun _ => [((a : Int) : Int) = (a : Int),a < a0.size,((.bool (decide ((((a0.data.getD a 0).toNat : Nat) : Int) < 33))) : Value) = .bool true]) (fun _ => ⟨rfl,f,bool_eq g,trivial⟩) ?_
        intro _
        refine GS.rekey (env' := [(0,.string a0),(3,vI (a : Int)),(19,.bool true)]) (mem' := []) [0,3,19] [] (by kernel_rfl) (by kernel_rfl) rfl ?_
        exact k true hm
      · skip
        refine GS.tgM (fun _ => [(0,.string a0),(3,vI (a : Int)),(19,.bool (decide ((((a0.data.getD a 0).toNat : Nat) : Int) > 126)))]) [(2,{ act := .elt a }),(4,{ sp := some (.bool false) }),(7,{ act := .elt a })] (fun _ => [((a : Int) : Int) = (a : Int),a < a0.size,((.bool (decide ((((a0.data.getD a 0).toNat : Nat) : Int) < 33))) : Value) = .bool false,((a : Int) : Int) = (a : Int),a < a0.size]) (fun _ => ⟨rfl,f,bool_eq g,rfl,f,trivial⟩) ?_
        intro _
        refine GS.rekey (env' := [(0,.string a0),(3,vI (a : Int)),(19,.bool (decide ((((a0.data.getD a 0).toNat : Nat) : Int) > 126)))]) (mem' := []) [0,3,19] [] (by kernel_rfl) (by kernel_rfl) rfl ?_
        exact k (decide ((((a0.data.getD a 0).toNat : Nat) : Int) > 126)) hm
    · rintro c hm
      replace hm := (j _).symm.trans hm
      try dsimp only at hm
      refine GS.cond (t := c) rfl rfl (fun h => ?_) (fun h => ?_)
      · replace hm := br_t h hm
        refine GS.seq ?_
        refine GS.tzM (fun _ => [(2,.bool false)]) [] ?_
        intro _
        have hy := Option.some.inj hm
        subst hy
        refine GS.ret (fn := Tryz.f29) [0] [.bool false] [] rfl Tryz.func29 (by kernel_rfl) trivial (fun w' hs => ?_)
        exact ⟨(),rfl,hs.turnedG (ks := []) rfl rfl⟩
      · replace hm := br_f h hm
        refine GS.skip ?_
        refine GS.inBlock ?_
        refine GS.tgM (fun _ => [(0,.string a0),(3,vI ((a + 1 : Nat) : Int))]) [(1,{ sp := some (vI ((a + 1 : Nat) : Int)) })] (fun _ => [((vI (IntKind.i64.wrap ((a : Int) + 1))) : Value) = vI ((a + 1 : Nat) : Int)]) (fun _ => ⟨natwB (cnt1 d) l,trivial⟩) ?_
        intro _
        refine GS.inLoop ?_
        refine GS.rekey (env' := [(0,.string a0),(3,vI ((a + 1 : Nat) : Int))]) (mem' := []) [0,3] [] (by kernel_rfl) (by kernel_rfl) rfl ?_
        exact i ⟨b,a + 1⟩ ⟨cntN d,hm⟩ (Nat.lt_succ_self _)

theorem w_tholeref13_Check (F : Nat) (q : Int) (g : S_api_Version) (e : Option Addr) (j : Nat) (f : List S_api_Entry) (c : Option Addr) (i : Nat) (d : List S_api_Last) (b : Option Addr) (h : Nat) (a : List S_api_Item) {y : Int} (hm : m_tholeref13_Check F q g f d a = some y) : CallG Tryz.prog 6 #[.agg ((kc0 q g.Epoch g.N e f.length j c d.length i b a.length h)).toArray] (X := Unit) (fun (_ : Unit) => vI y) [] [r31 e f,r94 c d,r91 b a] (fun (_ : Unit) => []) := by
  intro w hg
  rw [m_tholeref13_Check] at hm
  refine GS.start (S := mayT [] [r31 e f,r94 c d,r91 b a]) (mem := [(1,r31 e f),(2,r94 c d),(3,r91 b a)]) Tryz.func6 rfl Tryz.ntmps6 (Nat.le_of_ble_eq_true rfl) (hg.start rfl) ?_
  refine GS.conv (env' := [(0,.agg ((kc0 q g.Epoch g.N e f.length j c d.length i b a.length h)).toArray)]) rfl rfl ?_
  refine GS.seq ?_
  refine GS.tz (fun o => [(1,pA ((o 0).x) 0)]) (fun o => [(1,r31 e f),(2,r94 c d),(3,r91 b a),(4,.cells ((o 0).x) 28 (kc0 q g.Epoch g.N e f.length j c d.length i b a.length h))]) [(0,{ act := .new .var,key := some 4 })] ?_
  intro o
  refine GS.seq ?_
  refine GS.seq ?_
  refine jn_elim hm (fun J7 bg hm => ?_)
  refine GS.cut (ι := Bool) (I := fun (Q : Bool) => J7 Q = some y) (E := fun (Q : Bool) => [(1,pA ((o 0).x) 0),(23,.bool Q)]) (M := fun (Q : Bool) => [(1,r31 e f),(2,r94 c d),(3,r91 b a),(4,.cells ((o 0).x) 28 (kc0 q g.Epoch g.N e f.length j c d.length i b a.length h))]) ?_ ?_
  rotate_left
  · intro H8
    refine br_elim hm (fun h3 hm => ?_) (fun h3 hm => ?_)
    · skip
      refine GS.tgM (fun _ => [(1,pA ((o 0).x) 0),(23,.bool true)]) [(1,{ act := .load 4 0 0 [] }),(3,{ sp := some (.bool true) })] (fun _ => [(o 0).x = (o 0).x,((.bool (decide (q < 0))) : Value) = .bool true]) (fun _ => ⟨rfl,bool_eq h3,trivial⟩) ?_
      intro _
      refine GS.rekey (env' := [(1,pA ((o 0).x) 0),(23,.bool true)]) (mem' := [(1,r31 e f),(2,r94 c d),(3,r91 b a),(4,.cells ((o 0).x) 28 (kc0 q g.Epoch g.N e f.length j c d.length i b a.length h))]) [1,23] [(1,1),(2,2),(3,3),(4,4)] (by kernel_rfl) (by kernel_rfl) rfl ?_
      exact H8 true hm
    · skip
      refine bnd_elim hm (fun y4 e5 hm => ?_)
      refine br_elim hm (fun h6 hm => ?_) (fun h6 hm => ?_)
      · skip
        refine GS.tgM (fun _ => [(1,pA ((o 0).x) 0),(23,.bool true)]) [(1,{ act := .load 4 0 0 [] }),(3,{ sp := some (.bool false) }),(5,{ act := .load 4 0 0 [] }),(6,{ act := .call [] (.bool y4) }),(8,{ sp := some (.bool true) })] (fun _ => [(o 0).x = (o 0).x,((.bool (decide (q < 0))) : Value) = .bool false,(o 0).x = (o 0).x,CallOK Tryz.prog 27 #[.agg #[vI g.Epoch,vI g.N]] (.bool y4) [],((.bool y4) : Value) = .bool true]) (fun _ => ⟨rfl,bool_eq h3,rfl,(by have h1 := w_tholeref13_below F g e5; exact h1.ok trivial),bool_eq h6,trivial⟩) ?_
        intro _
        refine GS.rekey (env' := [(1,pA ((o 0).x) 0),(23,.bool true)]) (mem' := [(1,r31 e f),(2,r94 c d),(3,r91 b a),(4,.cells ((o 0).x) 28 (kc0 q g.Epoch g.N e f.length j c d.length i b a.length h))]) [1,23] [(1,1),(2,2),(3,3),(4,4)] (by kernel_rfl) (by kernel_rfl) rfl ?_
        exact H8 true hm
      · skip
        refine GS.tgM (fun _ => [(1,pA ((o 0).x) 0),(23,.bool (decide ((a.length : Int) > 32)))]) [(1,{ act := .load 4 0 0 [] }),(3,{ sp := some (.bool false) }),(5,{ act := .load 4 0 0 [] }),(6,{ act := .call [] (.bool y4) }),(8,{ sp := some (.bool false) }),(10,{ act := .load 4 0 0 [] })] (fun _ => [(o 0).x = (o 0).x,((.bool (decide (q < 0))) : Value) = .bool false,(o 0).x = (o 0).x,CallOK Tryz.prog 27 #[.agg #[vI g.Epoch,vI g.N]] (.bool y4) [],((.bool y4) : Value) = .bool false,(o 0).x = (o 0).x]) (fun _ => ⟨rfl,bool_eq h3,rfl,(by have h1 := w_tholeref13_below F g e5; exact h1.ok trivial),bool_eq h6,rfl,trivial⟩) ?_
        intro _
        refine GS.rekey (env' := [(1,pA ((o 0).x) 0),(23,.bool (decide ((a.length : Int) > 32)))]) (mem' := [(1,r31 e f),(2,r94 c d),(3,r91 b a),(4,.cells ((o 0).x) 28 (kc0 q g.Epoch g.N e f.length j c d.length i b a.length h))]) [1,23] [(1,1),(2,2),(3,3),(4,4)] (by kernel_rfl) (by kernel_rfl) rfl ?_
        exact H8 (decide ((a.length : Int) > 32)) hm
  · rintro Q hm
    replace hm := (bg _).symm.trans hm
    try dsimp only at hm
    refine GS.cond (t := Q) rfl rfl (fun av => ?_) (fun av => ?_)
    · replace hm := br_t av hm
      refine GS.seq ?_
      refine GS.tz (fun _ => [(2,vI 22)]) (fun _ => []) [] ?_
      intro _
      have hy := Option.some.inj hm
      subst hy
      refine GS.ret (fn := Tryz.f6) [0] [vI 22] [] rfl Tryz.func6 (by kernel_rfl) trivial (fun w' hs => ?_)
      exact ⟨(),rfl,hs.turnedG (ks := []) rfl rfl⟩
    · replace hm := br_f av hm
      refine GS.skip ?_
      refine GS.seq ?_
      refine GS.tg (fun k => [(1,pA ((o 0).x) 0),(3,pA ((k 2).x) 0)]) (fun k => [(1,r31 e f),(2,r94 c d),(3,r91 b a),(4,.cells ((o 0).x) 28 (kc0 q g.Epoch g.N e f.length j c d.length i b a.length h)),(5,.cells ((k 2).x) 23 [vI g.Epoch,vI g.N])]) [(1,{ act := .load 4 0 0 [] }),(2,{ act := .new .var,key := some 5 }),(3,{ act := .store 0 0 [],key := some 5 })] (fun k => [(o 0).x = (o 0).x,(k 2).x = (k 2).x,oC (.agg #[vI g.Epoch,vI g.N])]) (fun k => ⟨rfl,rfl,rfl,trivial⟩) ?_
      intro k
      refine GS.seq ?_
      refine GS.seq ?_
      refine GS.tgM (fun _ => [(1,pA ((o 0).x) 0),(3,pA ((k 2).x) 0),(27,.slice e f.length j),(28,vI (f.length : Int)),(29,vI 0)]) [(1,{ act := .load 4 0 0 [] })] (fun _ => [(o 0).x = (o 0).x]) (fun _ => ⟨rfl,trivial⟩) ?_
      intro _
      refine GS.block ?_
      refine GS.loop ?_
      refine grd_elim hm (fun bh hm => ?_)
      refine GS.rekey (env' := [(1,pA ((o 0).x) 0),(3,pA ((k 2).x) 0),(27,.slice e f.length j),(28,vI (f.length : Int)),(29,vI 0)]) (mem' := [(1,r31 e f),(2,r94 c d),(3,r91 b a),(4,.cells ((o 0).x) 28 (kc0 q g.Epoch g.N e f.length j c d.length i b a.length h)),(5,.cells ((k 2).x) 23 [vI g.Epoch,vI g.N])]) [1,3,27,28,29] [(1,1),(2,2),(3,3),(4,4),(5,5)] (by kernel_rfl) (by kernel_rfl) rfl ?_
      refine loopL_elim hm (fun st73 fn74 hst75 hfn76 hm => ?_)
      refine GS.loopInv (ι := List S_api_Entry × Nat × Int × Int) (I := fun ⟨L,u,m,n⟩ => f.drop u = L ∧ loopL st73 fn74 L u (m,n) = some y) (μ := fun ⟨L,u,m,n⟩ => L.length) (E := fun ⟨L,u,m,n⟩ => [(1,pA ((o 0).x) 0),(3,pA ((k 2).x) 0),(27,.slice e f.length j),(28,vI (f.length : Int)),(29,vI (u : Int))]) (M := fun ⟨L,u,m,n⟩ => [(1,r31 e f),(2,r94 c d),(3,r91 b a),(4,.cells ((o 0).x) 28 (kc0 q g.Epoch g.N e f.length j c d.length i b a.length h)),(5,.cells ((k 2).x) 23 [vI m,vI n])]) ?_ ⟨f,0,g.Epoch,g.N⟩ ⟨List.drop_zero ..,hm⟩
      rintro ⟨L,u,m,n⟩ ⟨Y,hm⟩ a2
      cases L with
      | nil =>
        replace hm := (hfn76 _ _).symm.trans hm
        try dsimp only at hm
        refine GS.seq ?_
        refine GS.tzM (fun _ => [(1,pA ((o 0).x) 0),(3,pA ((k 2).x) 0),(27,.slice e f.length j),(28,vI (f.length : Int)),(29,vI (u : Int)),(30,.bool (decide ((u : Int) < (f.length : Int))))]) [] ?_
        intro _
        refine GS.seq ?_
        refine GS.cond (t := decide ((u : Int) < (f.length : Int))) rfl rfl (fun bi => absb bi (drop_dec0 Y)) (fun _ => ?_)
        refine GS.exit rfl ?_
        refine GS.seq ?_
        refine GS.seq ?_
        refine GS.tgM (fun _ => [(1,pA ((o 0).x) 0),(3,pA ((k 2).x) 0),(47,.slice b a.length h),(48,vI (a.length : Int)),(49,vI 0)]) [(1,{ act := .load 4 0 0 [] })] (fun _ => [(o 0).x = (o 0).x]) (fun _ => ⟨rfl,trivial⟩) ?_
        intro _
        refine GS.block ?_
        refine GS.loop ?_
        refine grd_elim hm (fun a3 hm => ?_)
        refine GS.rekey (env' := [(1,pA ((o 0).x) 0),(3,pA ((k 2).x) 0),(47,.slice b a.length h),(48,vI (a.length : Int)),(49,vI 0)]) (mem' := [(1,r31 e f),(2,r94 c d),(3,r91 b a),(4,.cells ((o 0).x) 28 (kc0 q g.Epoch g.N e f.length j c d.length i b a.length h)),(5,.cells ((k 2).x) 23 [vI m,vI n])]) [1,3,47,48,49] [(1,1),(2,2),(3,3),(4,4),(5,5)] (by kernel_rfl) (by kernel_rfl) rfl ?_
        refine loopL_elim hm (fun st151 fn152 hst153 hfn154 hm => ?_)
        refine GS.loopInv (ι := List S_api_Item × Nat) (I := fun ⟨G,p⟩ => a.drop p = G ∧ loopL st151 fn152 G p () = some y) (μ := fun ⟨G,p⟩ => G.length) (E := fun ⟨G,p⟩ => [(1,pA ((o 0).x) 0),(3,pA ((k 2).x) 0),(47,.slice b a.length h),(48,vI (a.length : Int)),(49,vI (p : Int))]) (M := fun ⟨G,p⟩ => [(1,r31 e f),(2,r94 c d),(3,r91 b a),(4,.cells ((o 0).x) 28 (kc0 q g.Epoch g.N e f.length j c d.length i b a.length h)),(5,.cells ((k 2).x) 23 [vI m,vI n])]) ?_ ⟨a,0⟩ ⟨List.drop_zero ..,hm⟩
        rintro ⟨G,p⟩ ⟨R,hm⟩ aw
        cases G with
        | nil =>
          replace hm := (hfn154 _ _).symm.trans hm
          try dsimp only at hm
          refine GS.seq ?_
          refine GS.tzM (fun _ => [(1,pA ((o 0).x) 0),(3,pA ((k 2).x) 0),(47,.slice b a.length h),(48,vI (a.length : Int)),(49,vI (p : Int)),(50,.bool (decide ((p : Int) < (a.length : Int))))]) [] ?_
          intro _
          refine GS.seq ?_
          refine GS.cond (t := decide ((p : Int) < (a.length : Int))) rfl rfl (fun a4 => absb a4 (drop_dec0 R)) (fun _ => ?_)
          refine GS.exit rfl ?_
          refine GS.seq ?_
          refine GS.seq ?_
          refine GS.tgM (fun _ => [(1,pA ((o 0).x) 0),(3,pA ((k 2).x) 0),(94,.slice c d.length i),(95,vI (d.length : Int)),(96,vI 0)]) [(1,{ act := .load 4 0 0 [] })] (fun _ => [(o 0).x = (o 0).x]) (fun _ => ⟨rfl,trivial⟩) ?_
          intro _
          refine GS.block ?_
          refine GS.loop ?_
          refine grd_elim hm (fun a5 hm => ?_)
          refine GS.rekey (env' := [(1,pA ((o 0).x) 0),(3,pA ((k 2).x) 0),(94,.slice c d.length i),(95,vI (d.length : Int)),(96,vI 0)]) (mem' := [(1,r31 e f),(2,r94 c d),(3,r91 b a),(4,.cells ((o 0).x) 28 (kc0 q g.Epoch g.N e f.length j c d.length i b a.length h)),(5,.cells ((k 2).x) 23 [vI m,vI n])]) [1,3,94,95,96] [(1,1),(2,2),(3,3),(4,4),(5,5)] (by kernel_rfl) (by kernel_rfl) rfl ?_
          refine loopL_elim hm (fun st217 fn218 hst219 hfn220 hm => ?_)
          refine GS.loopInv (ι := List S_api_Last × Nat) (I := fun ⟨H,l⟩ => d.drop l = H ∧ loopL st217 fn218 H l () = some y) (μ := fun ⟨H,l⟩ => H.length) (E := fun ⟨H,l⟩ => [(1,pA ((o 0).x) 0),(3,pA ((k 2).x) 0),(94,.slice c d.length i),(95,vI (d.length : Int)),(96,vI (l : Int))]) (M := fun ⟨H,l⟩ => [(1,r31 e f),(2,r94 c d),(3,r91 b a),(4,.cells ((o 0).x) 28 (kc0 q g.Epoch g.N e f.length j c d.length i b a.length h)),(5,.cells ((k 2).x) 23 [vI m,vI n])]) ?_ ⟨d,0⟩ ⟨List.drop_zero ..,hm⟩
          rintro ⟨H,l⟩ ⟨T,hm⟩ ax
          cases H with
          | nil =>
            replace hm := (hfn220 _ _).symm.trans hm
            try dsimp only at hm
            refine GS.seq ?_
            refine GS.tzM (fun _ => [(1,pA ((o 0).x) 0),(3,pA ((k 2).x) 0),(94,.slice c d.length i),(95,vI (d.length : Int)),(96,vI (l : Int)),(97,.bool (decide ((l : Int) < (d.length : Int))))]) [] ?_
            intro _
            refine GS.seq ?_
            refine GS.cond (t := decide ((l : Int) < (d.length : Int))) rfl rfl (fun a6 => absb a6 (drop_dec0 T)) (fun _ => ?_)
            refine GS.exit rfl ?_
            refine GS.seq ?_
            refine GS.tz (fun _ => [(2,vI 0)]) (fun _ => []) [] ?_
            intro _
            have hy := Option.some.inj hm
            subst hy
            refine GS.ret (fn := Tryz.f6) [0] [vI 0] [] rfl Tryz.func6 (by kernel_rfl) trivial (fun w' hs => ?_)
            exact ⟨(),rfl,hs.turnedG (ks := []) rfl rfl⟩
          | cons v H =>
            replace hm := (hst219 _ _ _ _).symm.trans hm
            try dsimp only at hm
            refine GS.seq ?_
            refine GS.tzM (fun _ => [(1,pA ((o 0).x) 0),(3,pA ((k 2).x) 0),(94,.slice c d.length i),(95,vI (d.length : Int)),(96,vI (l : Int)),(97,.bool (decide ((l : Int) < (d.length : Int))))]) [] ?_
            intro _
            refine GS.seq ?_
            refine GS.cond (t := decide ((l : Int) < (d.length : Int))) rfl rfl (fun _ => ?_) (fun a7 => absb (drop_dec T) a7)
            refine GS.skip ?_
            refine GS.seq ?_
            refine GS.block ?_
            refine GS.seq ?_
            refine GS.tg (fun A => [(1,pA ((o 0).x) 0),(3,pA ((k 2).x) 0),(8,vI (l : Int)),(9,pA ((A 3).x) 0),(94,.slice c d.length i),(95,vI (d.length : Int)),(96,vI (l : Int))]) (fun A => [(1,r31 e f),(2,r94 c d),(3,r91 b a),(4,.cells ((o 0).x) 28 (kc0 q g.Epoch g.N e f.length j c d.length i b a.length h)),(5,.cells ((k 2).x) 23 [vI m,vI n]),(6,.cells ((A 3).x) 94 (kc4 v.Client v.Number v.Errno v.Version.Epoch v.Version.N))]) [(1,{ act := .idx 2 l }),(2,{ act := .load 2 l 0 [vI v.Client,vI v.Number,vI v.Errno,vI v.Version.Epoch,vI v.Version.N] }),(3,{ act := .new .var,key := some 6 }),(5,{ act := .store 0 0 [],key := some 6 })] (fun A => [c = c,d.length = (List.map S_api_Last.row d).length,((l : Int) : Int) = (l : Int),l < d.length,blk c = blk c,offs c + l * 5 = offs c + (l * 5 + 0),(List.map S_api_Last.row d)[l]? = some [vI v.Client,vI v.Number,vI v.Errno,vI v.Version.Epoch,vI v.Version.N],(A 3).x = (A 3).x,oC (.agg ((kc4 v.Client v.Number v.Errno v.Version.Epoch v.Version.N)).toArray)]) (fun A => ⟨rfl,mlen S_api_Last.row d,rfl,(drop_lt T),rfl,rfl,map_drop S_api_Last.row T,rfl,rfl,trivial⟩) ?_
            intro A
            refine GS.seq ?_
            refine jn_elim hm (fun a8 ay hm => ?_)
            refine GS.cut (ι := Bool) (I := fun (J : Bool) => a8 J = some y) (E := fun (J : Bool) => [(1,pA ((o 0).x) 0),(3,pA ((k 2).x) 0),(94,.slice c d.length i),(95,vI (d.length : Int)),(96,vI (l : Int)),(126,.bool J)]) (M := fun (J : Bool) => [(1,r31 e f),(2,r94 c d),(3,r91 b a),(4,.cells ((o 0).x) 28 (kc0 q g.Epoch g.N e f.length j c d.length i b a.length h)),(5,.cells ((k 2).x) 23 [vI m,vI n])]) ?_ ?_
            rotate_left
            · intro af
              refine bnd_elim hm (fun K ag hm => ?_)
              refine br_elim hm (fun ac hm => ?_) (fun ac hm => ?_)
              · skip
                refine GS.region (env' := fun _ => [(1,pA ((o 0).x) 0),(3,pA ((k 2).x) 0),(94,.slice c d.length i),(95,vI (d.length : Int)),(96,vI (l : Int)),(126,.bool true)]) (mem' := fun _ => [(1,r31 e f),(2,r94 c d),(3,r91 b a),(4,.cells ((o 0).x) 28 (kc0 q g.Epoch g.N e f.length j c d.length i b a.length h)),(5,.cells ((k 2).x) 23 [vI m,vI n])]) (RunsTo.mkd [(1,{ act := .load 6 0 0 [] }),(2,{ act := .call [] (.bool K) }),(3,{ sp := some (.bool true) })] [1,3,94,95,96,126] [1,2,3,4,5] (fun _ => [(A 3).x = (A 3).x,CallOK Tryz.prog 27 #[.agg #[vI v.Version.Epoch,vI v.Version.N]] (.bool K) [],((.bool K) : Value) = .bool true]) (by kernel_rfl) (by kernel_rfl) (fun _ => by kernel_rfl) (fun _ => ⟨rfl,(by have h1 := w_tholeref13_below F v.Version ag; exact h1.ok trivial),bool_eq ac,trivial⟩)) ?_
                intro _
                refine GS.rekey (env' := [(1,pA ((o 0).x) 0),(3,pA ((k 2).x) 0),(94,.slice c d.length i),(95,vI (d.length : Int)),(96,vI (l : Int)),(126,.bool true)]) (mem' := [(1,r31 e f),(2,r94 c d),(3,r91 b a),(4,.cells ((o 0).x) 28 (kc0 q g.Epoch g.N e f.length j c d.length i b a.length h)),(5,.cells ((k 2).x) 23 [vI m,vI n])]) [1,3,94,95,96,126] [(1,1),(2,2),(3,3),(4,4),(5,5)] (by kernel_rfl) (by kernel_rfl) rfl ?_
                exact af true hm
              · skip
                refine bnd_elim hm (fun O ak hm => ?_)
                refine br_elim hm (fun ah hm => ?_) (fun ah hm => ?_)
                · skip
                  refine GS.region (env' := fun _ => [(1,pA ((o 0).x) 0),(3,pA ((k 2).x) 0),(94,.slice c d.length i),(95,vI (d.length : Int)),(96,vI (l : Int)),(126,.bool true)]) (mem' := fun _ => [(1,r31 e f),(2,r94 c d),(3,r91 b a),(4,.cells ((o 0).x) 28 (kc0 q g.Epoch g.N e f.length j c d.length i b a.length h)),(5,.cells ((k 2).x) 23 [vI m,vI n])]) (RunsTo.mkd [(1,{ act := .load 6 0 0 [] }),(2,{ act := .call [] (.bool K) }),(3,{ sp := some (.bool false) }),(5,{ act := .load 6 0 0 [] }),(6,{ act := .load 5 0 0 [] }),(7,{ act := .call [] (vI O) }),(10,{ sp := some (.bool true) })] [1,3,94,95,96,126] [1,2,3,4,5] (fun _ => [(A 3).x = (A 3).x,CallOK Tryz.prog 27 #[.agg #[vI v.Version.Epoch,vI v.Version.N]] (.bool K) [],((.bool K) : Value) = .bool false,(A 3).x = (A 3).x,(k 2).x = (k 2).x,CallOK Tryz.prog 28 #[.agg #[vI v.Version.Epoch,vI v.Version.N],.agg #[vI m,vI n]] (vI O) [],((.bool (decide (O > 0))) : Value) = .bool true]) (by kernel_rfl) (by kernel_rfl) (fun _ => by kernel_rfl) (fun _ => ⟨rfl,(by have h1 := w_tholeref13_below F v.Version ag; exact h1.ok trivial),bool_eq ac,rfl,rfl,(by have h1 := w_tholeref13_Cmp F v.Version (S_api_Version.mk m n) ak; exact h1.ok trivial),bool_eq ah,trivial⟩)) ?_
                  intro _
                  refine GS.rekey (env' := [(1,pA ((o 0).x) 0),(3,pA ((k 2).x) 0),(94,.slice c d.length i),(95,vI (d.length : Int)),(96,vI (l : Int)),(126,.bool true)]) (mem' := [(1,r31 e f),(2,r94 c d),(3,r91 b a),(4,.cells ((o 0).x) 28 (kc0 q g.Epoch g.N e f.length j c d.length i b a.length h)),(5,.cells ((k 2).x) 23 [vI m,vI n])]) [1,3,94,95,96,126] [(1,1),(2,2),(3,3),(4,4),(5,5)] (by kernel_rfl) (by kernel_rfl) rfl ?_
                  exact af true hm
                · skip
                  refine br_elim hm (fun al hm => ?_) (fun al hm => ?_)
                  · skip
                    refine grd_elim hm (fun a9 hm => ?_)
                    refine grd_elim hm (fun am hm => ?_)
                    refine GS.region (env' := fun _ => [(1,pA ((o 0).x) 0),(3,pA ((k 2).x) 0),(94,.slice c d.length i),(95,vI (d.length : Int)),(96,vI (l : Int)),(126,.bool (decide (((d.getD (Int.toNat ((l : Int) - 1)) dS_api_Last).Client) ≥ v.Client)))]) (mem' := fun _ => [(1,r31 e f),(2,r94 c d),(3,r91 b a),(4,.cells ((o 0).x) 28 (kc0 q g.Epoch g.N e f.length j c d.length i b a.length h)),(5,.cells ((k 2).x) 23 [vI m,vI n])]) (RunsTo.mkd [(1,{ act := .load 6 0 0 [] }),(2,{ act := .call [] (.bool K) }),(3,{ sp := some (.bool false) }),(5,{ act := .load 6 0 0 [] }),(6,{ act := .load 5 0 0 [] }),(7,{ act := .call [] (vI O) }),(10,{ sp := some (.bool false) }),(13,{ sp := some (.bool true) }),(15,{ act := .load 4 0 0 [] }),(17,{ sp := some (vI ((l : Int) - 1)) }),(18,{ act := .idx 2 (Int.toNat ((l : Int) - 1)) }),(20,{ act := .load 2 (Int.toNat ((l : Int) - 1)) 0 [vI ((d.getD (Int.toNat ((l : Int) - 1)) dS_api_Last).Client),vI ((d.getD (Int.toNat ((l : Int) - 1)) dS_api_Last).Number),vI ((d.getD (Int.toNat ((l : Int) - 1)) dS_api_Last).Errno),vI (((d.getD (Int.toNat ((l : Int) - 1)) dS_api_Last).Version).Epoch),vI (((d.getD (Int.toNat ((l : Int) - 1)) dS_api_Last).Version).N)] }),(22,{ act := .load 6 0 0 [] })] [1,3,94,95,96,126] [1,2,3,4,5] (fun _ => [(A 3).x = (A 3).x,CallOK Tryz.prog 27 #[.agg #[vI v.Version.Epoch,vI v.Version.N]] (.bool K) [],((.bool K) : Value) = .bool false,(A 3).x = (A 3).x,(k 2).x = (k 2).x,CallOK Tryz.prog 28 #[.agg #[vI v.Version.Epoch,vI v.Version.N],.agg #[vI m,vI n]] (vI O) [],((.bool (decide (O > 0))) : Value) = .bool false,((.bool (decide ((l : Int) > 0))) : Value) = .bool true,(o 0).x = (o 0).x,oW ((l : Int) - 1),c = c,d.length = (List.map S_api_Last.row d).length,(((l : Int) - 1) : Int) = (((Int.toNat ((l : Int) - 1)) : Nat) : Int),(Int.toNat ((l : Int) - 1)) < d.length,blk c = blk c,offs c + (Int.toNat ((l : Int) - 1)) * 5 = offs c + ((Int.toNat ((l : Int) - 1)) * 5 + 0),(List.map S_api_Last.row d)[(Int.toNat ((l : Int) - 1))]? = some [vI ((d.getD (Int.toNat ((l : Int) - 1)) dS_api_Last).Client),vI ((d.getD (Int.toNat ((l : Int) - 1)) dS_api_Last).Number),vI ((d.getD (Int.toNat ((l : Int) - 1)) dS_api_Last).Errno),vI (((d.getD (Int.toNat ((l : Int) - 1)) dS_api_Last).Version).Epoch),vI (((d.getD (Int.toNat ((l : Int) - 1)) dS_api_Last).Version).N)],(A 3).x = (A 3).x]) (by kernel_rfl) (by kernel_rfl) (fun _ => by kernel_rfl) (fun _ => ⟨rfl,(by have h1 := w_tholeref13_below F v.Version ag; exact h1.ok trivial),bool_eq ac,rfl,rfl,(by have h1 := w_tholeref13_Cmp F v.Version (S_api_Version.mk m n) ak; exact h1.ok trivial),bool_eq ah,bool_eq al,rfl,I64.w a9,rfl,mlen S_api_Last.row d,am.eq,am.2,rfl,rfl,map_at S_api_Last.row dS_api_Last am.2,rfl,trivial⟩)) ?_
                    intro _
                    refine GS.rekey (env' := [(1,pA ((o 0).x) 0),(3,pA ((k 2).x) 0),(94,.slice c d.length i),(95,vI (d.length : Int)),(96,vI (l : Int)),(126,.bool (decide (((d.getD (Int.toNat ((l : Int) - 1)) dS_api_Last).Client) ≥ v.Client)))]) (mem' := [(1,r31 e f),(2,r94 c d),(3,r91 b a),(4,.cells ((o 0).x) 28 (kc0 q g.Epoch g.N e f.length j c d.length i b a.length h)),(5,.cells ((k 2).x) 23 [vI m,vI n])]) [1,3,94,95,96,126] [(1,1),(2,2),(3,3),(4,4),(5,5)] (by kernel_rfl) (by kernel_rfl) rfl ?_
                    exact af (decide (((d.getD (Int.toNat ((l : Int) - 1)) dS_api_Last).Client) ≥ v.Client)) hm
                  · skip
                    refine GS.region (env' := fun _ => [(1,pA ((o 0).x) 0),(3,pA ((k 2).x) 0),(94,.slice c d.length i),(95,vI (d.length : Int)),(96,vI (l : Int)),(126,.bool false)]) (mem' := fun _ => [(1,r31 e f),(2,r94 c d),(3,r91 b a),(4,.cells ((o 0).x) 28 (kc0 q g.Epoch g.N e f.length j c d.length i b a.length h)),(5,.cells ((k 2).x) 23 [vI m,vI n])]) (RunsTo.mkd [(1,{ act := .load 6 0 0 [] }),(2,{ act := .call [] (.bool K) }),(3,{ sp := some (.bool false) }),(5,{ act := .load 6 0 0 [] }),(6,{ act := .load 5 0 0 [] }),(7,{ act := .call [] (vI O) }),(10,{ sp := some (.bool false) }),(13,{ sp := some (.bool false) })] [1,3,94,95,96,126] [1,2,3,4,5] (fun _ => [(A 3).x = (A 3).x,CallOK Tryz.prog 27 #[.agg #[vI v.Version.Epoch,vI v.Version.N]] (.bool K) [],((.bool K) : Value) = .bool false,(A 3).x = (A 3).x,(k 2).x = (k 2).x,CallOK Tryz.prog 28 #[.agg #[vI v.Version.Epoch,vI v.Version.N],.agg #[vI m,vI n]] (vI O) [],((.bool (decide (O > 0))) : Value) = .bool false,((.bool (decide ((l : Int) > 0))) : Value) = .bool false]) (by kernel_rfl) (by kernel_rfl) (fun _ => by kernel_rfl) (fun _ => ⟨rfl,(by have h1 := w_tholeref13_below F v.Version ag; exact h1.ok trivial),bool_eq ac,rfl,rfl,(by have h1 := w_tholeref13_Cmp F v.Version (S_api_Version.mk m n) ak; exact h1.ok trivial),bool_eq ah,bool_eq al,trivial⟩)) ?_
                    intro _
                    refine GS.rekey (env' := [(1,pA ((o 0).x) 0),(3,pA ((k 2).x) 0),(94,.slice c d.length i),(95,vI (d.length : Int)),(96,vI (l : Int)),(126,.bool false)]) (mem' := [(1,r31 e f),(2,r94 c d),(3,r91 b a),(4,.cells ((o 0).x) 28 (kc0 q g.Epoch g.N e f.length j c d.length i b a.length h)),(5,.cells ((k 2).x) 23 [vI m,vI n])]) [1,3,94,95,96,126] [(1,1),(2,2),(3,3),(4,4),(5,5)] (by kernel_rfl) (by kernel_rfl) rfl ?_
                    exact af false hm
            · rintro J hm
              replace hm := (ay _).symm.trans hm
              try dsimp only at hm
              refine GS.cond (t := J) rfl rfl (fun an => ?_) (fun an => ?_)
              · replace hm := br_t an hm
                refine GS.seq ?_
                refine GS.tz (fun _ => [(2,vI 22)]) (fun _ => []) [] ?_
                intro _
                have hy := Option.some.inj hm
                subst hy
                refine GS.ret (fn := Tryz.f6) [0] [vI 22] [] rfl Tryz.func6 (by kernel_rfl) trivial (fun w' hs => ?_)
                exact ⟨(),rfl,hs.turnedG (ks := []) rfl rfl⟩
              · replace hm := br_f an hm
                refine GS.skip ?_
                refine GS.inBlock ?_
                refine GS.tgM (fun _ => [(1,pA ((o 0).x) 0),(3,pA ((k 2).x) 0),(94,.slice c d.length i),(95,vI (d.length : Int)),(96,vI ((l + 1 : Nat) : Int))]) [(0,{ sp := some (vI ((l + 1 : Nat) : Int)) })] (fun _ => [((vI (IntKind.i64.wrap ((l : Int) + 1))) : Value) = vI ((l + 1 : Nat) : Int)]) (fun _ => ⟨natw (drop_lt T) a5,trivial⟩) ?_
                intro _
                refine GS.inLoop ?_
                refine GS.rekey (env' := [(1,pA ((o 0).x) 0),(3,pA ((k 2).x) 0),(94,.slice c d.length i),(95,vI (d.length : Int)),(96,vI ((l + 1 : Nat) : Int))]) (mem' := [(1,r31 e f),(2,r94 c d),(3,r91 b a),(4,.cells ((o 0).x) 28 (kc0 q g.Epoch g.N e f.length j c d.length i b a.length h)),(5,.cells ((k 2).x) 23 [vI m,vI n])]) [1,3,94,95,96] [(1,1),(2,2),(3,3),(4,4),(5,5)] (by kernel_rfl) (by kernel_rfl) rfl ?_
                exact ax ⟨H,l + 1⟩ ⟨drop_next T,hm⟩ (Nat.lt_succ_self _)
        | cons s G =>
          replace hm := (hst153 _ _ _ _).symm.trans hm
          try dsimp only at hm
          refine GS.seq ?_
          refine GS.tzM (fun _ => [(1,pA ((o 0).x) 0),(3,pA ((k 2).x) 0),(47,.slice b a.length h),(48,vI (a.length : Int)),(49,vI (p : Int)),(50,.bool (decide ((p : Int) < (a.length : Int))))]) [] ?_
          intro _
          refine GS.seq ?_
          refine GS.cond (t := decide ((p : Int) < (a.length : Int))) rfl rfl (fun _ => ?_) (fun ba => absb (drop_dec R) ba)
          refine GS.skip ?_
          refine GS.seq ?_
          refine GS.block ?_
          refine GS.seq ?_
          refine GS.tg (fun r => [(1,pA ((o 0).x) 0),(3,pA ((k 2).x) 0),(6,vI (p : Int)),(7,pA ((r 3).x) 0),(47,.slice b a.length h),(48,vI (a.length : Int)),(49,vI (p : Int))]) (fun r => [(1,r31 e f),(2,r94 c d),(3,r91 b a),(4,.cells ((o 0).x) 28 (kc0 q g.Epoch g.N e f.length j c d.length i b a.length h)),(5,.cells ((k 2).x) 23 [vI m,vI n]),(6,.cells ((r 3).x) 91 (kc3 s.Name s.Version.Epoch s.Version.N s.Crc))]) [(1,{ act := .idx 3 p }),(2,{ act := .load 3 p 0 [.string s.Name,vI s.Version.Epoch,vI s.Version.N,.int .u32 s.Crc] }),(3,{ act := .new .var,key := some 6 }),(5,{ act := .store 0 0 [],key := some 6 })] (fun r => [b = b,a.length = (List.map S_api_Item.row a).length,((p : Int) : Int) = (p : Int),p < a.length,blk b = blk b,offs b + p * 4 = offs b + (p * 4 + 0),(List.map S_api_Item.row a)[p]? = some [.string s.Name,vI s.Version.Epoch,vI s.Version.N,.int .u32 s.Crc],(r 3).x = (r 3).x,oC (.agg ((kc3 s.Name s.Version.Epoch s.Version.N s.Crc)).toArray)]) (fun r => ⟨rfl,mlen S_api_Item.row a,rfl,(drop_lt R),rfl,rfl,map_drop S_api_Item.row R,rfl,rfl,trivial⟩) ?_
          intro r
          refine GS.seq ?_
          refine jn_elim hm (fun bb az hm => ?_)
          refine GS.cut (ι := Bool) (I := fun (U : Bool) => bb U = some y) (E := fun (U : Bool) => [(1,pA ((o 0).x) 0),(3,pA ((k 2).x) 0),(47,.slice b a.length h),(48,vI (a.length : Int)),(49,vI (p : Int)),(91,.bool U)]) (M := fun (U : Bool) => [(1,r31 e f),(2,r94 c d),(3,r91 b a),(4,.cells ((o 0).x) 28 (kc0 q g.Epoch g.N e f.length j c d.length i b a.length h)),(5,.cells ((k 2).x) 23 [vI m,vI n])]) ?_ ?_
          rotate_left
          · intro Z
            refine bnd_elim hm (fun C aa hm => ?_)
            refine br_elim hm (fun W hm => ?_) (fun W hm => ?_)
            · skip
              refine GS.region (env' := fun _ => [(1,pA ((o 0).x) 0),(3,pA ((k 2).x) 0),(47,.slice b a.length h),(48,vI (a.length : Int)),(49,vI (p : Int)),(91,.bool true)]) (mem' := fun _ => [(1,r31 e f),(2,r94 c d),(3,r91 b a),(4,.cells ((o 0).x) 28 (kc0 q g.Epoch g.N e f.length j c d.length i b a.length h)),(5,.cells ((k 2).x) 23 [vI m,vI n])]) (RunsTo.mkd [(1,{ act := .load 6 0 0 [] }),(2,{ act := .call [] (.bool C) }),(4,{ sp := some (.bool true) })] [1,3,47,48,49,91] [1,2,3,4,5] (fun _ => [(r 3).x = (r 3).x,CallOK Tryz.prog 29 #[.string s.Name] (.bool C) [],((.bool (!C)) : Value) = .bool true]) (by kernel_rfl) (by kernel_rfl) (fun _ => by kernel_rfl) (fun _ => ⟨rfl,(by have h1 := w_tholeref09_Good F s.Name aa; exact h1.ok trivial),bool_eq W,trivial⟩)) ?_
              intro _
              refine GS.rekey (env' := [(1,pA ((o 0).x) 0),(3,pA ((k 2).x) 0),(47,.slice b a.length h),(48,vI (a.length : Int)),(49,vI (p : Int)),(91,.bool true)]) (mem' := [(1,r31 e f),(2,r94 c d),(3,r91 b a),(4,.cells ((o 0).x) 28 (kc0 q g.Epoch g.N e f.length j c d.length i b a.length h)),(5,.cells ((k 2).x) 23 [vI m,vI n])]) [1,3,47,48,49,91] [(1,1),(2,2),(3,3),(4,4),(5,5)] (by kernel_rfl) (by kernel_rfl) rfl ?_
              exact Z true hm
            · skip
              refine bnd_elim hm (fun D ad hm => ?_)
              refine br_elim hm (fun ab hm => ?_) (fun ab hm => ?_)
              · skip
                refine GS.region (env' := fun _ => [(1,pA ((o 0).x) 0),(3,pA ((k 2).x) 0),(47,.slice b a.length h),(48,vI (a.length : Int)),(49,vI (p : Int)),(91,.bool true)]) (mem' := fun _ => [(1,r31 e f),(2,r94 c d),(3,r91 b a),(4,.cells ((o 0).x) 28 (kc0 q g.Epoch g.N e f.length j c d.length i b a.length h)),(5,.cells ((k 2).x) 23 [vI m,vI n])]) (RunsTo.mkd [(1,{ act := .load 6 0 0 [] }),(2,{ act := .call [] (.bool C) }),(4,{ sp := some (.bool false) }),(6,{ act := .load 6 0 0 [] }),(7,{ act := .call [] (.bool D) }),(9,{ sp := some (.bool true) })] [1,3,47,48,49,91] [1,2,3,4,5] (fun _ => [(r 3).x = (r 3).x,CallOK Tryz.prog 29 #[.string s.Name] (.bool C) [],((.bool (!C)) : Value) = .bool false,(r 3).x = (r 3).x,CallOK Tryz.prog 27 #[.agg #[vI s.Version.Epoch,vI s.Version.N]] (.bool D) [],((.bool D) : Value) = .bool true]) (by kernel_rfl) (by kernel_rfl) (fun _ => by kernel_rfl) (fun _ => ⟨rfl,(by have h1 := w_tholeref09_Good F s.Name aa; exact h1.ok trivial),bool_eq W,rfl,(by have h1 := w_tholeref13_below F s.Version ad; exact h1.ok trivial),bool_eq ab,trivial⟩)) ?_
                intro _
                refine GS.rekey (env' := [(1,pA ((o 0).x) 0),(3,pA ((k 2).x) 0),(47,.slice b a.length h),(48,vI (a.length : Int)),(49,vI (p : Int)),(91,.bool true)]) (mem' := [(1,r31 e f),(2,r94 c d),(3,r91 b a),(4,.cells ((o 0).x) 28 (kc0 q g.Epoch g.N e f.length j c d.length i b a.length h)),(5,.cells ((k 2).x) 23 [vI m,vI n])]) [1,3,47,48,49,91] [(1,1),(2,2),(3,3),(4,4),(5,5)] (by kernel_rfl) (by kernel_rfl) rfl ?_
                exact Z true hm
              · skip
                refine br_elim hm (fun ae hm => ?_) (fun ae hm => ?_)
                · skip
                  refine GS.region (env' := fun _ => [(1,pA ((o 0).x) 0),(3,pA ((k 2).x) 0),(47,.slice b a.length h),(48,vI (a.length : Int)),(49,vI (p : Int)),(91,.bool true)]) (mem' := fun _ => [(1,r31 e f),(2,r94 c d),(3,r91 b a),(4,.cells ((o 0).x) 28 (kc0 q g.Epoch g.N e f.length j c d.length i b a.length h)),(5,.cells ((k 2).x) 23 [vI m,vI n])]) (RunsTo.mkd [(1,{ act := .load 6 0 0 [] }),(2,{ act := .call [] (.bool C) }),(4,{ sp := some (.bool false) }),(6,{ act := .load 6 0 0 [] }),(7,{ act := .call [] (.bool D) }),(9,{ sp := some (.bool false) }),(11,{ act := .load 6 0 0 [] }),(13,{ act := .eq }),(15,{ sp := some (.bool true) })] [1,3,47,48,49,91] [1,2,3,4,5] (fun _ => [(r 3).x = (r 3).x,CallOK Tryz.prog 29 #[.string s.Name] (.bool C) [],((.bool (!C)) : Value) = .bool false,(r 3).x = (r 3).x,CallOK Tryz.prog 27 #[.agg #[vI s.Version.Epoch,vI s.Version.N]] (.bool D) [],((.bool D) : Value) = .bool false,(r 3).x = (r 3).x,((.bool (S_api_Version.beq s.Version (S_api_Version.mk 0 0))) : Value) = .bool true]) (by kernel_rfl) (by kernel_rfl) (fun _ => by kernel_rfl) (fun _ => ⟨rfl,(by have h1 := w_tholeref09_Good F s.Name aa; exact h1.ok trivial),bool_eq W,rfl,(by have h1 := w_tholeref13_below F s.Version ad; exact h1.ok trivial),bool_eq ab,rfl,bool_eq ae,trivial⟩)) ?_
                  intro _
                  refine GS.rekey (env' := [(1,pA ((o 0).x) 0),(3,pA ((k 2).x) 0),(47,.slice b a.length h),(48,vI (a.length : Int)),(49,vI (p : Int)),(91,.bool true)]) (mem' := [(1,r31 e f),(2,r94 c d),(3,r91 b a),(4,.cells ((o 0).x) 28 (kc0 q g.Epoch g.N e f.length j c d.length i b a.length h)),(5,.cells ((k 2).x) 23 [vI m,vI n])]) [1,3,47,48,49,91] [(1,1),(2,2),(3,3),(4,4),(5,5)] (by kernel_rfl) (by kernel_rfl) rfl ?_
                  exact Z true hm
                · skip
                  refine bnd_elim hm (fun P ao hm => ?_)
                  refine br_elim hm (fun ai hm => ?_) (fun ai hm => ?_)
                  · skip
                    refine GS.region (env' := fun _ => [(1,pA ((o 0).x) 0),(3,pA ((k 2).x) 0),(47,.slice b a.length h),(48,vI (a.length : Int)),(49,vI (p : Int)),(91,.bool true)]) (mem' := fun _ => [(1,r31 e f),(2,r94 c d),(3,r91 b a),(4,.cells ((o 0).x) 28 (kc0 q g.Epoch g.N e f.length j c d.length i b a.length h)),(5,.cells ((k 2).x) 23 [vI m,vI n])]) (RunsTo.mkd [(1,{ act := .load 6 0 0 [] }),(2,{ act := .call [] (.bool C) }),(4,{ sp := some (.bool false) }),(6,{ act := .load 6 0 0 [] }),(7,{ act := .call [] (.bool D) }),(9,{ sp := some (.bool false) }),(11,{ act := .load 6 0 0 [] }),(13,{ act := .eq }),(15,{ sp := some (.bool false) }),(17,{ act := .load 6 0 0 [] }),(18,{ act := .load 5 0 0 [] }),(19,{ act := .call [] (vI P) }),(22,{ sp := some (.bool true) })] [1,3,47,48,49,91] [1,2,3,4,5] (fun _ => [(r 3).x = (r 3).x,CallOK Tryz.prog 29 #[.string s.Name] (.bool C) [],((.bool (!C)) : Value) = .bool false,(r 3).x = (r 3).x,CallOK Tryz.prog 27 #[.agg #[vI s.Version.Epoch,vI s.Version.N]] (.bool D) [],((.bool D) : Value) = .bool false,(r 3).x = (r 3).x,((.bool (S_api_Version.beq s.Version (S_api_Version.mk 0 0))) : Value) = .bool false,(r 3).x = (r 3).x,(k 2).x = (k 2).x,CallOK Tryz.prog 28 #[.agg #[vI s.Version.Epoch,vI s.Version.N],.agg #[vI m,vI n]] (vI P) [],((.bool (decide (P > 0))) : Value) = .bool true]) (by kernel_rfl) (by kernel_rfl) (fun _ => by kernel_rfl) (fun _ => ⟨rfl,(by have h1 := w_tholeref09_Good F s.Name aa; exact h1.ok trivial),bool_eq W,rfl,(by have h1 := w_tholeref13_below F s.Version ad; exact h1.ok trivial),bool_eq ab,rfl,bool_eq ae,rfl,rfl,(by have h1 := w_tholeref13_Cmp F s.Version (S_api_Version.mk m n) ao; exact h1.ok trivial),bool_eq ai,trivial⟩)) ?_
                    intro _
                    refine GS.rekey (env' := [(1,pA ((o 0).x) 0),(3,pA ((k 2).x) 0),(47,.slice b a.length h),(48,vI (a.length : Int)),(49,vI (p : Int)),(91,.bool true)]) (mem' := [(1,r31 e f),(2,r94 c d),(3,r91 b a),(4,.cells ((o 0).x) 28 (kc0 q g.Epoch g.N e f.length j c d.length i b a.length h)),(5,.cells ((k 2).x) 23 [vI m,vI n])]) [1,3,47,48,49,91] [(1,1),(2,2),(3,3),(4,4),(5,5)] (by kernel_rfl) (by kernel_rfl) rfl ?_
                    exact Z true hm
                  · skip
                    refine br_elim hm (fun ap hm => ?_) (fun ap hm => ?_)
                    · skip
                      refine grd_elim hm (fun bc hm => ?_)
                      refine grd_elim hm (fun aq hm => ?_)
                      refine GS.region (env' := fun _ => [(1,pA ((o 0).x) 0),(3,pA ((k 2).x) 0),(47,.slice b a.length h),(48,vI (a.length : Int)),(49,vI (p : Int)),(91,.bool (!(Op.bytesLess ((a.getD (Int.toNat ((p : Int) - 1)) dS_api_Item).Name).toList s.Name.toList)))]) (mem' := fun _ => [(1,r31 e f),(2,r94 c d),(3,r91 b a),(4,.cells ((o 0).x) 28 (kc0 q g.Epoch g.N e f.length j c d.length i b a.length h)),(5,.cells ((k 2).x) 23 [vI m,vI n])]) (RunsTo.mkd [(1,{ act := .load 6 0 0 [] }),(2,{ act := .call [] (.bool C) }),(4,{ sp := some (.bool false) }),(6,{ act := .load 6 0 0 [] }),(7,{ act := .call [] (.bool D) }),(9,{ sp := some (.bool false) }),(11,{ act := .load 6 0 0 [] }),(13,{ act := .eq }),(15,{ sp := some (.bool false) }),(17,{ act := .load 6 0 0 [] }),(18,{ act := .load 5 0 0 [] }),(19,{ act := .call [] (vI P) }),(22,{ sp := some (.bool false) }),(25,{ sp := some (.bool true) }),(27,{ act := .load 4 0 0 [] }),(29,{ sp := some (vI ((p : Int) - 1)) }),(30,{ act := .idx 3 (Int.toNat ((p : Int) - 1)) }),(32,{ act := .load 3 (Int.toNat ((p : Int) - 1)) 0 [.string ((a.getD (Int.toNat ((p : Int) - 1)) dS_api_Item).Name),vI (((a.getD (Int.toNat ((p : Int) - 1)) dS_api_Item).Version).Epoch),vI (((a.getD (Int.toNat ((p : Int) - 1)) dS_api_Item).Version).N),.int .u32 ((a.getD (Int.toNat ((p : Int) - 1)) dS_api_Item).Crc)] }),(34,{ act := .load 6 0 0 [] })] [1,3,47,48,49,91] [1,2,3,4,5] (fun _ => [(r 3).x = (r 3).x,CallOK Tryz.prog 29 #[.string s.Name] (.bool C) [],((.bool (!C)) : Value) = .bool false,(r 3).x = (r 3).x,CallOK Tryz.prog 27 #[.agg #[vI s.Version.Epoch,vI s.Version.N]] (.bool D) [],((.bool D) : Value) = .bool false,(r 3).x = (r 3).x,((.bool (S_api_Version.beq s.Version (S_api_Version.mk 0 0))) : Value) = .bool false,(r 3).x = (r 3).x,(k 2).x = (k 2).x,CallOK Tryz.prog 28 #[.agg #[vI s.Version.Epoch,vI s.Version.N],.agg #[vI m,vI n]] (vI P) [],((.bool (decide (P > 0))) : Value) = .bool false,((.bool (decide ((p : Int) > 0))) : Value) = .bool true,(o 0).x = (o 0).x,oW ((p : Int) - 1),b = b,a.length = (List.map S_api_Item.row a).length,(((p : Int) - 1) : Int) = (((Int.toNat ((p : Int) - 1)) : Nat) : Int),(Int.toNat ((p : Int) - 1)) < a.length,blk b = blk b,offs b + (Int.toNat ((p : Int) - 1)) * 4 = offs b + ((Int.toNat ((p : Int) - 1)) * 4 + 0),(List.map S_api_Item.row a)[(Int.toNat ((p : Int) - 1))]? = some [.string ((a.getD (Int.toNat ((p : Int) - 1)) dS_api_Item).Name),vI (((a.getD (Int.toNat ((p : Int) - 1)) dS_api_Item).Version).Epoch),vI (((a.getD (Int.toNat ((p : Int) - 1)) dS_api_Item).Version).N),.int .u32 ((a.getD (Int.toNat ((p : Int) - 1)) dS_api_Item).Crc)],(r 3).x = (r 3).x]) (by kernel_rfl) (by kernel_rfl) (fun _ => by kernel_rfl) (fun _ => ⟨rfl,(by have h1 := w_tholeref09_Good F s.Name aa; exact h1.ok trivial),bool_eq W,rfl,(by have h1 := w_tholeref13_below F s.Version ad; exact h1.ok trivial),bool_eq ab,rfl,bool_eq ae,rfl,rfl,(by have h1 := w_tholeref13_Cmp F s.Version (S_api_Version.mk m n) ao; exact h1.ok trivial),bool_eq ai,bool_eq ap,rfl,I64.w bc,rfl,mlen S_api_Item.row a,aq.eq,aq.2,rfl,rfl,map_at S_api_Item.row dS_api_Item aq.2,rfl,trivial⟩)) ?_
                      intro _
                      refine GS.rekey (env' := [(1,pA ((o 0).x) 0),(3,pA ((k 2).x) 0),(47,.slice b a.length h),(48,vI (a.length : Int)),(49,vI (p : Int)),(91,.bool (!(Op.bytesLess ((a.getD (Int.toNat ((p : Int) - 1)) dS_api_Item).Name).toList s.Name.toList)))]) (mem' := [(1,r31 e f),(2,r94 c d),(3,r91 b a),(4,.cells ((o 0).x) 28 (kc0 q g.Epoch g.N e f.length j c d.length i b a.length h)),(5,.cells ((k 2).x) 23 [vI m,vI n])]) [1,3,47,48,49,91] [(1,1),(2,2),(3,3),(4,4),(5,5)] (by kernel_rfl) (by kernel_rfl) rfl ?_
                      exact Z (!(Op.bytesLess ((a.getD (Int.toNat ((p : Int) - 1)) dS_api_Item).Name).toList s.Name.toList)) hm
                    · skip
                      refine GS.region (env' := fun _ => [(1,pA ((o 0).x) 0),(3,pA ((k 2).x) 0),(47,.slice b a.length h),(48,vI (a.length : Int)),(49,vI (p : Int)),(91,.bool false)]) (mem' := fun _ => [(1,r31 e f),(2,r94 c d),(3,r91 b a),(4,.cells ((o 0).x) 28 (kc0 q g.Epoch g.N e f.length j c d.length i b a.length h)),(5,.cells ((k 2).x) 23 [vI m,vI n])]) (RunsTo.mkd [(1,{ act := .load 6 0 0 [] }),(2,{ act := .call [] (.bool C) }),(4,{ sp := some (.bool false) }),(6,{ act := .load 6 0 0 [] }),(7,{ act := .call [] (.bool D) }),(9,{ sp := some (.bool false) }),(11,{ act := .load 6 0 0 [] }),(13,{ act := .eq }),(15,{ sp := some (.bool false) }),(17,{ act := .load 6 0 0 [] }),(18,{ act := .load 5 0 0 [] }),(19,{ act := .call [] (vI P) }),(22,{ sp := some (.bool false) }),(25,{ sp := some (.bool false) })] [1,3,47,48,49,91] [1,2,3,4,5] (fun _ => [(r 3).x = (r 3).x,CallOK Tryz.prog 29 #[.string s.Name] (.bool C) [],((.bool (!C)) : Value) = .bool false,(r 3).x = (r 3).x,CallOK Tryz.prog 27 #[.agg #[vI s.Version.Epoch,vI s.Version.N]] (.bool D) [],((.bool D) : Value) = .bool false,(r 3).x = (r 3).x,((.bool (S_api_Version.beq s.Version (S_api_Version.mk 0 0))) : Value) = .bool false,(r 3).x = (r 3).x,(k 2).x = (k 2).x,CallOK Tryz.prog 28 #[.agg #[vI s.Version.Epoch,vI s.Version.N],.agg #[vI m,vI n]] (vI P) [],((.bool (decide (P > 0))) : Value) = .bool false,((.bool (decide ((p : Int) > 0))) : Value) = .bool false]) (by kernel_rfl) (by kernel_rfl) (fun _ => by kernel_rfl) (fun _ => ⟨rfl,(by have h1 := w_tholeref09_Good F s.Name aa; exact h1.ok trivial),bool_eq W,rfl,(by have h1 := w_tholeref13_below F s.Version ad; exact h1.ok trivial),bool_eq ab,rfl,bool_eq ae,rfl,rfl,(by have h1 := w_tholeref13_Cmp F s.Version (S_api_Version.mk m n) ao; exact h1.ok trivial),bool_eq ai,bool_eq ap,trivial⟩)) ?_
                      intro _
                      refine GS.rekey (env' := [(1,pA ((o 0).x) 0),(3,pA ((k 2).x) 0),(47,.slice b a.length h),(48,vI (a.length : Int)),(49,vI (p : Int)),(91,.bool false)]) (mem' := [(1,r31 e f),(2,r94 c d),(3,r91 b a),(4,.cells ((o 0).x) 28 (kc0 q g.Epoch g.N e f.length j c d.length i b a.length h)),(5,.cells ((k 2).x) 23 [vI m,vI n])]) [1,3,47,48,49,91] [(1,1),(2,2),(3,3),(4,4),(5,5)] (by kernel_rfl) (by kernel_rfl) rfl ?_
                      exact Z false hm
          · rintro U hm
            replace hm := (az _).symm.trans hm
            try dsimp only at hm
            refine GS.cond (t := U) rfl rfl (fun ar => ?_) (fun ar => ?_)
            · replace hm := br_t ar hm
              refine GS.seq ?_
              refine GS.tz (fun _ => [(2,vI 22)]) (fun _ => []) [] ?_
              intro _
              have hy := Option.some.inj hm
              subst hy
              refine GS.ret (fn := Tryz.f6) [0] [vI 22] [] rfl Tryz.func6 (by kernel_rfl) trivial (fun w' hs => ?_)
              exact ⟨(),rfl,hs.turnedG (ks := []) rfl rfl⟩
            · replace hm := br_f ar hm
              refine GS.skip ?_
              refine GS.inBlock ?_
              refine GS.tgM (fun _ => [(1,pA ((o 0).x) 0),(3,pA ((k 2).x) 0),(47,.slice b a.length h),(48,vI (a.length : Int)),(49,vI ((p + 1 : Nat) : Int))]) [(0,{ sp := some (vI ((p + 1 : Nat) : Int)) })] (fun _ => [((vI (IntKind.i64.wrap ((p : Int) + 1))) : Value) = vI ((p + 1 : Nat) : Int)]) (fun _ => ⟨natw (drop_lt R) a3,trivial⟩) ?_
              intro _
              refine GS.inLoop ?_
              refine GS.rekey (env' := [(1,pA ((o 0).x) 0),(3,pA ((k 2).x) 0),(47,.slice b a.length h),(48,vI (a.length : Int)),(49,vI ((p + 1 : Nat) : Int))]) (mem' := [(1,r31 e f),(2,r94 c d),(3,r91 b a),(4,.cells ((o 0).x) 28 (kc0 q g.Epoch g.N e f.length j c d.length i b a.length h)),(5,.cells ((k 2).x) 23 [vI m,vI n])]) [1,3,47,48,49] [(1,1),(2,2),(3,3),(4,4),(5,5)] (by kernel_rfl) (by kernel_rfl) rfl ?_
              exact aw ⟨G,p + 1⟩ ⟨drop_next R,hm⟩ (Nat.lt_succ_self _)
      | cons z L =>
        replace hm := (hst75 _ _ _ _).symm.trans hm
        try dsimp only at hm
        refine GS.seq ?_
        refine GS.tzM (fun _ => [(1,pA ((o 0).x) 0),(3,pA ((k 2).x) 0),(27,.slice e f.length j),(28,vI (f.length : Int)),(29,vI (u : Int)),(30,.bool (decide ((u : Int) < (f.length : Int))))]) [] ?_
        intro _
        refine GS.seq ?_
        refine GS.cond (t := decide ((u : Int) < (f.length : Int))) rfl rfl (fun _ => ?_) (fun bj => absb (drop_dec Y) bj)
        refine GS.skip ?_
        refine GS.seq ?_
        refine GS.block ?_
        refine GS.seq ?_
        refine GS.tg (fun B => [(1,pA ((o 0).x) 0),(3,pA ((k 2).x) 0),(5,pA ((B 2).x) 0),(27,.slice e f.length j),(28,vI (f.length : Int)),(29,vI (u : Int))]) (fun B => [(1,r31 e f),(2,r94 c d),(3,r91 b a),(4,.cells ((o 0).x) 28 (kc0 q g.Epoch g.N e f.length j c d.length i b a.length h)),(5,.cells ((k 2).x) 23 [vI m,vI n]),(6,.cells ((B 2).x) 31 (kc1 z.Version.Epoch z.Version.N z.Remove z.Errno z.Name z.Client z.Number))]) [(0,{ act := .idx 1 u }),(1,{ act := .load 1 u 0 [vI z.Version.Epoch,vI z.Version.N,.bool z.Remove,vI z.Errno,.string z.Name,vI z.Client,vI z.Number] }),(2,{ act := .new .var,key := some 6 }),(3,{ act := .store 0 0 [],key := some 6 })] (fun B => [e = e,f.length = (List.map S_api_Entry.row f).length,((u : Int) : Int) = (u : Int),u < f.length,blk e = blk e,offs e + u * 7 = offs e + (u * 7 + 0),(List.map S_api_Entry.row f)[u]? = some [vI z.Version.Epoch,vI z.Version.N,.bool z.Remove,vI z.Errno,.string z.Name,vI z.Client,vI z.Number],(B 2).x = (B 2).x,oC (.agg ((kc1 z.Version.Epoch z.Version.N z.Remove z.Errno z.Name z.Client z.Number)).toArray)]) (fun B => ⟨rfl,mlen S_api_Entry.row f,rfl,(drop_lt Y),rfl,rfl,map_drop S_api_Entry.row Y,rfl,rfl,trivial⟩) ?_
        intro B
        refine GS.seq ?_
        refine GS.seq ?_
        refine jn_elim hm (fun bk bd hm => ?_)
        refine GS.cut (ι := Bool) (I := fun (V : Bool) => bk V = some y) (E := fun (V : Bool) => [(1,pA ((o 0).x) 0),(3,pA ((k 2).x) 0),(5,pA ((B 2).x) 0),(27,.slice e f.length j),(28,vI (f.length : Int)),(29,vI (u : Int)),(42,.bool V)]) (M := fun (V : Bool) => [(1,r31 e f),(2,r94 c d),(3,r91 b a),(4,.cells ((o 0).x) 28 (kc0 q g.Epoch g.N e f.length j c d.length i b a.length h)),(5,.cells ((k 2).x) 23 [vI m,vI n]),(6,.cells ((B 2).x) 31 (kc1 z.Version.Epoch z.Version.N z.Remove z.Errno z.Name z.Client z.Number))]) ?_ ?_
        rotate_left
        · intro be
          refine bnd_elim hm (fun aj bf hm => ?_)
          refine br_elim hm (fun a0 hm => ?_) (fun a0 hm => ?_)
          · skip
            refine GS.tgM (fun _ => [(1,pA ((o 0).x) 0),(3,pA ((k 2).x) 0),(5,pA ((B 2).x) 0),(27,.slice e f.length j),(28,vI (f.length : Int)),(29,vI (u : Int)),(42,.bool true)]) [(1,{ act := .load 6 0 0 [] }),(2,{ act := .call [] (.bool aj) }),(3,{ sp := some (.bool true) })] (fun _ => [(B 2).x = (B 2).x,CallOK Tryz.prog 27 #[.agg #[vI z.Version.Epoch,vI z.Version.N]] (.bool aj) [],((.bool aj) : Value) = .bool true]) (fun _ => ⟨rfl,(by have h1 := w_tholeref13_below F z.Version bf; exact h1.ok trivial),bool_eq a0,trivial⟩) ?_
            intro _
            refine GS.rekey (env' := [(1,pA ((o 0).x) 0),(3,pA ((k 2).x) 0),(5,pA ((B 2).x) 0),(27,.slice e f.length j),(28,vI (f.length : Int)),(29,vI (u : Int)),(42,.bool true)]) (mem' := [(1,r31 e f),(2,r94 c d),(3,r91 b a),(4,.cells ((o 0).x) 28 (kc0 q g.Epoch g.N e f.length j c d.length i b a.length h)),(5,.cells ((k 2).x) 23 [vI m,vI n]),(6,.cells ((B 2).x) 31 (kc1 z.Version.Epoch z.Version.N z.Remove z.Errno z.Name z.Client z.Number))]) [1,3,5,27,28,29,42] [(1,1),(2,2),(3,3),(4,4),(5,5),(6,6)] (by kernel_rfl) (by kernel_rfl) rfl ?_
            exact be true hm
          · skip
            refine bnd_elim hm (fun au bl hm => ?_)
            refine GS.tgM (fun _ => [(1,pA ((o 0).x) 0),(3,pA ((k 2).x) 0),(5,pA ((B 2).x) 0),(27,.slice e f.length j),(28,vI (f.length : Int)),(29,vI (u : Int)),(42,.bool (decide (au ≤ 0)))]) [(1,{ act := .load 6 0 0 [] }),(2,{ act := .call [] (.bool aj) }),(3,{ sp := some (.bool false) }),(5,{ act := .load 6 0 0 [] }),(6,{ act := .load 5 0 0 [] }),(7,{ act := .call [] (vI au) })] (fun _ => [(B 2).x = (B 2).x,CallOK Tryz.prog 27 #[.agg #[vI z.Version.Epoch,vI z.Version.N]] (.bool aj) [],((.bool aj) : Value) = .bool false,(B 2).x = (B 2).x,(k 2).x = (k 2).x,CallOK Tryz.prog 28 #[.agg #[vI z.Version.Epoch,vI z.Version.N],.agg #[vI m,vI n]] (vI au) []]) (fun _ => ⟨rfl,(by have h1 := w_tholeref13_below F z.Version bf; exact h1.ok trivial),bool_eq a0,rfl,rfl,(by have h1 := w_tholeref13_Cmp F z.Version (S_api_Version.mk m n) bl; exact h1.ok trivial),trivial⟩) ?_
            intro _
            refine GS.rekey (env' := [(1,pA ((o 0).x) 0),(3,pA ((k 2).x) 0),(5,pA ((B 2).x) 0),(27,.slice e f.length j),(28,vI (f.length : Int)),(29,vI (u : Int)),(42,.bool (decide (au ≤ 0)))]) (mem' := [(1,r31 e f),(2,r94 c d),(3,r91 b a),(4,.cells ((o 0).x) 28 (kc0 q g.Epoch g.N e f.length j c d.length i b a.length h)),(5,.cells ((k 2).x) 23 [vI m,vI n]),(6,.cells ((B 2).x) 31 (kc1 z.Version.Epoch z.Version.N z.Remove z.Errno z.Name z.Client z.Number))]) [1,3,5,27,28,29,42] [(1,1),(2,2),(3,3),(4,4),(5,5),(6,6)] (by kernel_rfl) (by kernel_rfl) rfl ?_
            exact be (decide (au ≤ 0)) hm
        · rintro V hm
          replace hm := (bd _).symm.trans hm
          try dsimp only at hm
          refine GS.cond (t := V) rfl rfl (fun a1 => ?_) (fun a1 => ?_)
          · replace hm := br_t a1 hm
            refine GS.seq ?_
            refine GS.tz (fun _ => [(2,vI 22)]) (fun _ => []) [] ?_
            intro _
            have hy := Option.some.inj hm
            subst hy
            refine GS.ret (fn := Tryz.f6) [0] [vI 22] [] rfl Tryz.func6 (by kernel_rfl) trivial (fun w' hs => ?_)
            exact ⟨(),rfl,hs.turnedG (ks := []) rfl rfl⟩
          · replace hm := br_f a1 hm
            refine GS.skip ?_
            refine GS.tg (fun _ => [(1,pA ((o 0).x) 0),(3,pA ((k 2).x) 0),(27,.slice e f.length j),(28,vI (f.length : Int)),(29,vI (u : Int))]) (fun _ => [(1,r31 e f),(2,r94 c d),(3,r91 b a),(4,.cells ((o 0).x) 28 (kc0 q g.Epoch g.N e f.length j c d.length i b a.length h)),(5,.cells ((k 2).x) 23 [vI z.Version.Epoch,vI z.Version.N])]) [(1,{ act := .load 6 0 0 [] }),(2,{ act := .store 0 0 [],key := some 5 })] (fun _ => [(B 2).x = (B 2).x,(k 2).x = (k 2).x,oC (.agg #[vI z.Version.Epoch,vI z.Version.N])]) (fun _ => ⟨rfl,rfl,rfl,trivial⟩) ?_
            intro _
            refine GS.inBlock ?_
            refine GS.tgM (fun _ => [(1,pA ((o 0).x) 0),(3,pA ((k 2).x) 0),(27,.slice e f.length j),(28,vI (f.length : Int)),(29,vI ((u + 1 : Nat) : Int))]) [(0,{ sp := some (vI ((u + 1 : Nat) : Int)) })] (fun _ => [((vI (IntKind.i64.wrap ((u : Int) + 1))) : Value) = vI ((u + 1 : Nat) : Int)]) (fun _ => ⟨natw (drop_lt Y) bh,trivial⟩) ?_
            intro _
            refine GS.inLoop ?_
            refine GS.rekey (env' := [(1,pA ((o 0).x) 0),(3,pA ((k 2).x) 0),(27,.slice e f.length j),(28,vI (f.length : Int)),(29,vI ((u + 1 : Nat) : Int))]) (mem' := [(1,r31 e f),(2,r94 c d),(3,r91 b a),(4,.cells ((o 0).x) 28 (kc0 q g.Epoch g.N e f.length j c d.length i b a.length h)),(5,.cells ((k 2).x) 23 [vI z.Version.Epoch,vI z.Version.N])]) [1,3,27,28,29] [(1,1),(2,2),(3,3),(4,4),(5,5)] (by kernel_rfl) (by kernel_rfl) rfl ?_
            exact a2 ⟨L,u + 1,z.Version.Epoch,z.Version.N⟩ ⟨drop_next Y,hm⟩ (Nat.lt_succ_self _)

theorem w_slices_Index___int_int_ (F : Nat) (a : Option Addr) (b : Nat) {y : Unit} (hm : m_slices_Index___int_int_ F = some y) : CallG Tryz.prog 60 #[.slice a 2 b,vI 0] (X := Unit) (fun (_ : Unit) => vI 0) [] [.rd a 1 [[vI 0],[vI 1]]] (fun (_ : Unit) => []) := by
  intro w hg
  rw [m_slices_Index___int_int_] at hm
  refine GS.start (S := mayT [] [.rd a 1 [[vI 0],[vI 1]]]) (mem := [(1,.rd a 1 [[vI 0],[vI 1]])]) Tryz.func60 rfl Tryz.ntmps60 (Nat.le_of_ble_eq_true rfl) (hg.start rfl) ?_
  refine GS.conv (env' := [(0,.slice a 2 b),(1,vI 0)]) rfl rfl ?_
  refine GS.seq ?_
  refine GS.tzM (fun _ => [(0,.slice a 2 b),(1,vI 0)]) [] ?_
  intro _
  refine GS.seq ?_
  refine GS.seq ?_
  refine GS.tzM (fun _ => [(0,.slice a 2 b),(1,vI 0),(7,vI 2),(8,vI 0)]) [] ?_
  intro _
  refine GS.block ?_
  refine GS.loop ?_
  refine GS.seq ?_
  refine GS.tzM (fun _ => [(0,.slice a 2 b),(1,vI 0),(7,vI 2),(8,vI 0),(9,.bool true)]) [] ?_
  intro _
  refine GS.seq ?_
  refine GS.cond (t := true) rfl rfl (fun _ => ?_) (fun hf => by cases hf)
  refine GS.skip ?_
  refine GS.seq ?_
  refine GS.block ?_
  refine GS.seq ?_
  refine GS.tzM (fun _ => [(0,.slice a 2 b),(1,vI 0),(5,vI 0),(7,vI 2),(8,vI 0)]) [] ?_
  intro _
  refine GS.seq ?_
  refine GS.tgM (fun _ => [(0,.slice a 2 b),(1,vI 0),(5,vI 0),(7,vI 2),(8,vI 0),(16,.bool true)]) [(3,{ act := .idx 1 0 }),(4,{ act := .load 1 0 0 [vI 0] })] (fun _ => [a = a,2 = ([[vI 0],[vI 1]] : List (List Value)).length,(0 : Int) = (0 : Int),0 < 2,blk a = blk a,offs a + 0 * 1 = offs a + (0 * 1 + 0),([[vI 0],[vI 1]] : List (List Value))[0]? = some [vI 0]]) (fun _ => ⟨rfl,rfl,rfl,(Nat.le_of_ble_eq_true rfl),rfl,rfl,rfl,trivial⟩) ?_
  intro _
  refine GS.cond (t := true) rfl rfl (fun _ => ?_) (fun hf => by cases hf)
  refine GS.seq ?_
  refine GS.tz (fun _ => [(4,vI 0)]) (fun _ => []) [] ?_
  intro _
  have hy := Option.some.inj hm
  subst hy
  refine GS.ret (fn := Tryz.f60) [0] [vI 0] [] rfl Tryz.func60 (by kernel_rfl) trivial (fun w' hs => ?_)
  exact ⟨(),rfl,hs.turnedG (ks := []) rfl rfl⟩

theorem w_slices_Contains___int_int_ (F : Nat) (a : Option Addr) (b : Nat) {y : Unit} (hm : m_slices_Contains___int_int_ F = some y) : CallG Tryz.prog 40 #[.slice a 2 b,vI 0] (X := Unit) (fun (_ : Unit) => .bool true) [] [.rd a 1 [[vI 0],[vI 1]]] (fun (_ : Unit) => []) := by
  intro w hg
  rw [m_slices_Contains___int_int_] at hm
  refine GS.start (S := mayT [] [.rd a 1 [[vI 0],[vI 1]]]) (mem := [(1,.rd a 1 [[vI 0],[vI 1]])]) Tryz.func40 rfl Tryz.ntmps40 (Nat.le_of_ble_eq_true rfl) (hg.start rfl) ?_
  refine GS.conv (env' := [(0,.slice a 2 b),(1,vI 0)]) rfl rfl ?_
  refine GS.seq ?_
  refine GS.tzM (fun _ => [(0,.slice a 2 b),(1,vI 0)]) [] ?_
  intro _
  refine GS.seq ?_
  refine bnd_elim hm (fun y3 e4 hm => ?_)
  refine GS.tg (fun _ => [(4,.bool true)]) (fun _ => []) [(2,{ act := .call [1] (vI 0) })] (fun _ => [CallOK Tryz.prog 60 #[.slice a 2 b,vI 0] (vI 0) [some (.rd a 1 [[vI 0],[vI 1]])]]) (fun _ => ⟨(by have h1 := w_slices_Index___int_int_ F a b e4; exact h1.ok ⟨(.inl ⟨.rd a 1 [[vI 0],[vI 1]],.head _,Cov.refl _⟩),trivial⟩),trivial⟩) ?_
  intro _
  have hy := Option.some.inj hm
  subst hy
  refine GS.ret (fn := Tryz.f40) [0] [.bool true] [] rfl Tryz.func40 (by kernel_rfl) trivial (fun w' hs => ?_)
  exact ⟨(),rfl,hs.turnedG (ks := []) rfl rfl⟩

theorem w_pglog_below (F : Nat) {y : Unit} (hm : m_pglog_below F = some y) : CallG Tryz.prog 61 #[.agg #[vI 0,vI 0]] (X := Unit) (fun (_ : Unit) => .bool false) [] [] (fun (_ : Unit) => []) := by
  intro w hg
  rw [m_pglog_below] at hm
  refine GS.start (S := mayT [] []) (mem := []) Tryz.func61 rfl Tryz.ntmps61 (Nat.le_of_ble_eq_true rfl) (hg.start rfl) ?_
  refine GS.conv (env' := [(0,.agg #[vI 0,vI 0])]) rfl rfl ?_
  refine GS.seq ?_
  refine GS.tz (fun a => [(1,pA ((a 0).x) 0)]) (fun a => [(1,.cells ((a 0).x) 23 [vI 0,vI 0])]) [(0,{ act := .new .var,key := some 1 })] ?_
  intro a
  refine GS.seq ?_
  refine GS.tg (fun _ => [(2,.bool false)]) (fun _ => []) [(1,{ act := .load 1 0 0 [] }),(5,{ act := .load 1 0 0 [] })] (fun _ => [(a 0).x = (a 0).x,(a 0).x = (a 0).x]) (fun _ => ⟨rfl,rfl,trivial⟩) ?_
  intro _
  have hy := Option.some.inj hm
  subst hy
  refine GS.ret (fn := Tryz.f61) [0] [.bool false] [] rfl Tryz.func61 (by kernel_rfl) trivial (fun w' hs => ?_)
  exact ⟨(),rfl,hs.turnedG (ks := []) rfl rfl⟩

theorem w_pglog_rising_api_Item_string_ (F : Nat) {y : Unit} (hm : m_pglog_rising_api_Item_string_ F = some y) : CallG Tryz.prog 62 #[.slice none 0 0,.func (.func 56) #[] #[]] (X := Unit) (fun (_ : Unit) => .bool true) [] [] (fun (_ : Unit) => []) := by
  intro w hg
  rw [m_pglog_rising_api_Item_string_] at hm
  refine GS.start (S := mayT [] []) (mem := []) Tryz.func62 rfl Tryz.ntmps62 (Nat.le_of_ble_eq_true rfl) (hg.start rfl) ?_
  refine GS.conv (env' := [(0,.slice none 0 0),(1,.func (.func 56) #[] #[])]) rfl rfl ?_
  refine GS.seq ?_
  refine GS.tzM (fun _ => [(0,.slice none 0 0),(1,.func (.func 56) #[] #[])]) [] ?_
  intro _
  refine GS.seq ?_
  refine GS.seq ?_
  refine GS.tzM (fun _ => [(0,.slice none 0 0),(1,.func (.func 56) #[] #[]),(5,vI 1)]) [] ?_
  intro _
  refine GS.block ?_
  refine GS.loop ?_
  refine GS.seq ?_
  refine GS.seq ?_
  refine GS.tzM (fun _ => [(0,.slice none 0 0),(1,.func (.func 56) #[] #[]),(5,vI 1),(9,.bool false)]) [] ?_
  intro _
  refine GS.cond (t := false) rfl rfl (fun hf => by cases hf) (fun _ => ?_)
  refine GS.exit rfl ?_
  refine GS.seq ?_
  refine GS.tzM (fun _ => [(4,.bool true)]) [] ?_
  intro _
  have hy := Option.some.inj hm
  subst hy
  refine GS.ret (fn := Tryz.f62) [0] [.bool true] [] rfl Tryz.func62 (by kernel_rfl) trivial (fun w' hs => ?_)
  exact ⟨(),rfl,hs.turnedG (ks := []) rfl rfl⟩

theorem w_pglog_rising_api_Last_int_ (F : Nat) {y : Unit} (hm : m_pglog_rising_api_Last_int_ F = some y) : CallG Tryz.prog 63 #[.slice none 0 0,.func (.func 53) #[] #[]] (X := Unit) (fun (_ : Unit) => .bool true) [] [] (fun (_ : Unit) => []) := by
  intro w hg
  rw [m_pglog_rising_api_Last_int_] at hm
  refine GS.start (S := mayT [] []) (mem := []) Tryz.func63 rfl Tryz.ntmps63 (Nat.le_of_ble_eq_true rfl) (hg.start rfl) ?_
  refine GS.conv (env' := [(0,.slice none 0 0),(1,.func (.func 53) #[] #[])]) rfl rfl ?_
  refine GS.seq ?_
  refine GS.tzM (fun _ => [(0,.slice none 0 0),(1,.func (.func 53) #[] #[])]) [] ?_
  intro _
  refine GS.seq ?_
  refine GS.seq ?_
  refine GS.tzM (fun _ => [(0,.slice none 0 0),(1,.func (.func 53) #[] #[]),(5,vI 1)]) [] ?_
  intro _
  refine GS.block ?_
  refine GS.loop ?_
  refine GS.seq ?_
  refine GS.seq ?_
  refine GS.tzM (fun _ => [(0,.slice none 0 0),(1,.func (.func 53) #[] #[]),(5,vI 1),(9,.bool false)]) [] ?_
  intro _
  refine GS.cond (t := false) rfl rfl (fun hf => by cases hf) (fun _ => ?_)
  refine GS.exit rfl ?_
  refine GS.seq ?_
  refine GS.tzM (fun _ => [(4,.bool true)]) [] ?_
  intro _
  have hy := Option.some.inj hm
  subst hy
  refine GS.ret (fn := Tryz.f63) [0] [.bool true] [] rfl Tryz.func63 (by kernel_rfl) trivial (fun w' hs => ?_)
  exact ⟨(),rfl,hs.turnedG (ks := []) rfl rfl⟩

theorem w_pglog_Check (F : Nat) {y : Unit} (hm : m_pglog_Check F = some y) : CallG Tryz.prog 41 #[.agg ((kc5)).toArray] (X := Unit) (fun (_ : Unit) => vI 0) [] [] (fun (_ : Unit) => []) := by
  intro w hg
  rw [m_pglog_Check] at hm
  refine GS.start (S := mayT [] []) (mem := []) Tryz.func41 rfl Tryz.ntmps41 (Nat.le_of_ble_eq_true rfl) (hg.start rfl) ?_
  refine GS.conv (env' := [(0,.agg ((kc5)).toArray)]) rfl rfl ?_
  refine GS.seq ?_
  refine GS.tz (fun a => [(1,pA ((a 0).x) 0)]) (fun a => [(1,.cells ((a 0).x) 28 (kc5))]) [(0,{ act := .new .var,key := some 1 })] ?_
  intro a
  refine GS.seq ?_
  refine GS.seq ?_
  refine bnd_elim hm (fun y3 e4 hm => ?_)
  refine GS.tgM (fun _ => [(1,pA ((a 0).x) 0),(23,.bool false)]) [(1,{ act := .load 1 0 0 [] }),(5,{ act := .load 1 0 0 [] }),(6,{ act := .call [] (.bool false) }),(10,{ act := .load 1 0 0 [] })] (fun _ => [(a 0).x = (a 0).x,(a 0).x = (a 0).x,CallOK Tryz.prog 61 #[.agg #[vI 0,vI 0]] (.bool false) [],(a 0).x = (a 0).x]) (fun _ => ⟨rfl,rfl,(by have h1 := w_pglog_below F  e4; exact h1.ok trivial),rfl,trivial⟩) ?_
  intro _
  refine GS.cond (t := false) rfl rfl (fun hf => by cases hf) (fun _ => ?_)
  refine GS.skip ?_
  refine GS.seq ?_
  refine GS.tg (fun b => [(1,pA ((a 0).x) 0),(3,pA ((b 2).x) 0)]) (fun b => [(1,.cells ((a 0).x) 28 (kc5)),(2,.cells ((b 2).x) 23 [vI 0,vI 0])]) [(1,{ act := .load 1 0 0 [] }),(2,{ act := .new .var,key := some 2 }),(3,{ act := .store 0 0 [],key := some 2 })] (fun b => [(a 0).x = (a 0).x,(b 2).x = (b 2).x,oC (.agg #[vI 0,vI 0])]) (fun b => ⟨rfl,rfl,rfl,trivial⟩) ?_
  intro b
  refine GS.seq ?_
  refine GS.seq ?_
  refine GS.tgM (fun _ => [(1,pA ((a 0).x) 0),(3,pA ((b 2).x) 0),(27,.slice none 0 0),(28,vI 0),(29,vI 0)]) [(1,{ act := .load 1 0 0 [] })] (fun _ => [(a 0).x = (a 0).x]) (fun _ => ⟨rfl,trivial⟩) ?_
  intro _
  refine GS.block ?_
  refine GS.loop ?_
  refine GS.seq ?_
  refine GS.tzM (fun _ => [(1,pA ((a 0).x) 0),(3,pA ((b 2).x) 0),(27,.slice none 0 0),(28,vI 0),(29,vI 0),(30,.bool false)]) [] ?_
  intro _
  refine GS.seq ?_
  refine GS.cond (t := false) rfl rfl (fun hf => by cases hf) (fun _ => ?_)
  refine GS.exit rfl ?_
  refine GS.seq ?_
  refine GS.seq ?_
  refine bnd_elim hm (fun y9 c hm => ?_)
  refine bnd_elim hm (fun e d hm => ?_)
  refine GS.tgM (fun _ => [(1,pA ((a 0).x) 0),(3,pA ((b 2).x) 0),(55,.bool false)]) [(1,{ act := .load 1 0 0 [] }),(2,{ act := .call [] (.bool true) }),(6,{ act := .load 1 0 0 [] }),(7,{ act := .call [] (.bool true) })] (fun _ => [(a 0).x = (a 0).x,CallOK Tryz.prog 62 #[.slice none 0 0,.func (.func 56) #[] #[]] (.bool true) [],(a 0).x = (a 0).x,CallOK Tryz.prog 63 #[.slice none 0 0,.func (.func 53) #[] #[]] (.bool true) []]) (fun _ => ⟨rfl,(by have h1 := w_pglog_rising_api_Item_string_ F  c; exact h1.ok trivial),rfl,(by have h1 := w_pglog_rising_api_Last_int_ F  d; exact h1.ok trivial),trivial⟩) ?_
  intro _
  refine GS.cond (t := false) rfl rfl (fun hf => by cases hf) (fun _ => ?_)
  refine GS.skip ?_
  refine GS.seq ?_
  refine GS.seq ?_
  refine GS.tgM (fun _ => [(1,pA ((a 0).x) 0),(3,pA ((b 2).x) 0),(57,.slice none 0 0),(58,vI 0),(59,vI 0)]) [(1,{ act := .load 1 0 0 [] })] (fun _ => [(a 0).x = (a 0).x]) (fun _ => ⟨rfl,trivial⟩) ?_
  intro _
  refine GS.block ?_
  refine GS.loop ?_
  refine GS.seq ?_
  refine GS.tzM (fun _ => [(1,pA ((a 0).x) 0),(3,pA ((b 2).x) 0),(57,.slice none 0 0),(58,vI 0),(59,vI 0),(60,.bool false)]) [] ?_
  intro _
  refine GS.seq ?_
  refine GS.cond (t := false) rfl rfl (fun hf => by cases hf) (fun _ => ?_)
  refine GS.exit rfl ?_
  refine GS.seq ?_
  refine GS.seq ?_
  refine GS.tg (fun _ => [(3,pA ((b 2).x) 0),(87,.slice none 0 0),(88,vI 0),(89,vI 0)]) (fun _ => [(2,.cells ((b 2).x) 23 [vI 0,vI 0])]) [(1,{ act := .load 1 0 0 [] })] (fun _ => [(a 0).x = (a 0).x]) (fun _ => ⟨rfl,trivial⟩) ?_
  intro _
  refine GS.block ?_
  refine GS.loop ?_
  refine GS.seq ?_
  refine GS.tzM (fun _ => [(3,pA ((b 2).x) 0),(87,.slice none 0 0),(88,vI 0),(89,vI 0),(90,.bool false)]) [] ?_
  intro _
  refine GS.seq ?_
  refine GS.cond (t := false) rfl rfl (fun hf => by cases hf) (fun _ => ?_)
  refine GS.exit rfl ?_
  refine GS.seq ?_
  refine GS.tz (fun _ => [(2,vI 0)]) (fun _ => []) [] ?_
  intro _
  have hy := Option.some.inj hm
  subst hy
  refine GS.ret (fn := Tryz.f41) [0] [vI 0] [] rfl Tryz.func41 (by kernel_rfl) trivial (fun w' hs => ?_)
  exact ⟨(),rfl,hs.turnedG (ks := []) rfl rfl⟩

theorem w_pglog_Copy (F : Nat) {y : Unit} (hm : m_pglog_Copy F = some y) : CallG Tryz.prog 32 #[.agg ((kc5)).toArray] (X := Option Addr × Nat × Option Addr × Nat × Option Addr × Nat) (fun ⟨x0,x1,x2,x3,x4,x5⟩ => .agg ((kc9 x0 x1 x2 x3 x4 x5)).toArray) [] [] (fun ⟨x0,x1,x2,x3,x4,x5⟩ => [.osl x0 x1 31 7 [],.osl x2 x3 94 5 [],.osl x4 x5 91 4 []]) := by
  intro w hg
  rw [m_pglog_Copy] at hm
  refine GS.start (S := mayT [] []) (mem := []) Tryz.func32 rfl Tryz.ntmps32 (Nat.le_of_ble_eq_true rfl) (hg.start rfl) ?_
  refine GS.conv (env' := [(0,.agg ((kc5)).toArray)]) rfl rfl ?_
  refine GS.seq ?_
  refine GS.tz (fun b => [(1,pA ((b 0).x) 0),(2,pA ((b 1).x) 0)]) (fun b => [(1,.cells ((b 0).x) 28 (kc5)),(2,.cells ((b 1).x) 28 (kc6))]) [(0,{ act := .new .var,key := some 1 }),(1,{ act := .new .var,key := some 2 })] ?_
  intro b
  refine GS.seq ?_
  refine GS.tg (fun a => [(1,pA ((b 0).x) 0),(2,pA ((b 1).x) 0)]) (fun a => [(1,.cells ((b 0).x) 28 (kc7 ((a 2).ob) ((a 2).cap))),(2,.cells ((b 1).x) 28 (kc6)),(3,.osl ((a 2).ob) ((a 2).cap) 31 7 ([] : List (List Value)))]) [(1,{ act := .load 1 0 0 [] }),(2,{ act := .app none,key := some 3,spf := some (fun f => .slice (f.ob) 0 (f.cap)) }),(4,{ act := .store 0 0 [],key := some 1 })] (fun a => [(b 0).x = (b 0).x,(none : Option Addr) = none,0 = 0,0 = 0,0 = 0,([] : List (List Value)).length * (64 + 1) ≤ 70368744177664,((.slice ((a 2).ob) (0 + ([] : List (List Value)).length) ((a 2).cap)) : Value) = .slice ((a 2).ob) 0 ((a 2).cap),(b 0).x = (b 0).x,oC (.slice ((a 2).ob) 0 ((a 2).cap))]) (fun a => ⟨rfl,rfl,rfl,rfl,rfl,(show 0 * (64 + 1) ≤ 70368744177664 by decide),rfl,rfl,rfl,trivial⟩) ?_
  intro a
  refine GS.conv (mem' := [(1,.cells ((b 0).x) 28 (kc7 ((a 2).ob) ((a 2).cap))),(2,.cells ((b 1).x) 28 (kc6)),(3,.osl ((a 2).ob) ((a 2).cap) 31 7 [])]) rfl (congrArg (fun rr : List (List Value) => ([(1,.cells ((b 0).x) 28 (kc7 ((a 2).ob) ((a 2).cap))),(2,.cells ((b 1).x) 28 (kc6)),(3,.osl ((a 2).ob) ((a 2).cap) 31 7 rr)] : List (Nat × Ent))) (show ([] : List (List Value)) = ([] : List (List Value)) from rfl)) ?_
  refine GS.seq ?_
  refine GS.tg (fun c => [(1,pA ((b 0).x) 0),(2,pA ((b 1).x) 0)]) (fun c => [(1,.cells ((b 0).x) 28 (kc8 ((a 2).ob) ((a 2).cap) ((c 2).ob) ((c 2).cap))),(2,.cells ((b 1).x) 28 (kc6)),(3,.osl ((a 2).ob) ((a 2).cap) 31 7 []),(4,.osl ((c 2).ob) ((c 2).cap) 94 5 ([] : List (List Value)))]) [(1,{ act := .load 1 0 0 [] }),(2,{ act := .app none,key := some 4,spf := some (fun f => .slice (f.ob) 0 (f.cap)) }),(4,{ act := .store 0 0 [],key := some 1 })] (fun c => [(b 0).x = (b 0).x,(none : Option Addr) = none,0 = 0,0 = 0,0 = 0,([] : List (List Value)).length * (40 + 1) ≤ 70368744177664,((.slice ((c 2).ob) (0 + ([] : List (List Value)).length) ((c 2).cap)) : Value) = .slice ((c 2).ob) 0 ((c 2).cap),(b 0).x = (b 0).x,oC (.slice ((c 2).ob) 0 ((c 2).cap))]) (fun c => ⟨rfl,rfl,rfl,rfl,rfl,(show 0 * (40 + 1) ≤ 70368744177664 by decide),rfl,rfl,rfl,trivial⟩) ?_
  intro c
  refine GS.conv (mem' := [(1,.cells ((b 0).x) 28 (kc8 ((a 2).ob) ((a 2).cap) ((c 2).ob) ((c 2).cap))),(2,.cells ((b 1).x) 28 (kc6)),(3,.osl ((a 2).ob) ((a 2).cap) 31 7 []),(4,.osl ((c 2).ob) ((c 2).cap) 94 5 [])]) rfl (congrArg (fun rr : List (List Value) => ([(1,.cells ((b 0).x) 28 (kc8 ((a 2).ob) ((a 2).cap) ((c 2).ob) ((c 2).cap))),(2,.cells ((b 1).x) 28 (kc6)),(3,.osl ((a 2).ob) ((a 2).cap) 31 7 []),(4,.osl ((c 2).ob) ((c 2).cap) 94 5 rr)] : List (Nat × Ent))) (show ([] : List (List Value)) = ([] : List (List Value)) from rfl)) ?_
  refine GS.seq ?_
  refine GS.tg (fun d => [(1,pA ((b 0).x) 0),(2,pA ((b 1).x) 0)]) (fun d => [(1,.cells ((b 0).x) 28 (kc9 ((a 2).ob) ((a 2).cap) ((c 2).ob) ((c 2).cap) ((d 2).ob) ((d 2).cap))),(2,.cells ((b 1).x) 28 (kc6)),(3,.osl ((a 2).ob) ((a 2).cap) 31 7 []),(4,.osl ((c 2).ob) ((c 2).cap) 94 5 []),(5,.osl ((d 2).ob) ((d 2).cap) 91 4 ([] : List (List Value)))]) [(1,{ act := .load 1 0 0 [] }),(2,{ act := .app none,key := some 5,spf := some (fun f => .slice (f.ob) 0 (f.cap)) }),(4,{ act := .store 0 0 [],key := some 1 })] (fun d => [(b 0).x = (b 0).x,(none : Option Addr) = none,0 = 0,0 = 0,0 = 0,([] : List (List Value)).length * (40 + 1) ≤ 70368744177664,((.slice ((d 2).ob) (0 + ([] : List (List Value)).length) ((d 2).cap)) : Value) = .slice ((d 2).ob) 0 ((d 2).cap),(b 0).x = (b 0).x,oC (.slice ((d 2).ob) 0 ((d 2).cap))]) (fun d => ⟨rfl,rfl,rfl,rfl,rfl,(show 0 * (40 + 1) ≤ 70368744177664 by decide),rfl,rfl,rfl,trivial⟩) ?_
  intro d
  refine GS.conv (mem' := [(1,.cells ((b 0).x) 28 (kc9 ((a 2).ob) ((a 2).cap) ((c 2).ob) ((c 2).cap) ((d 2).ob) ((d 2).cap))),(2,.cells ((b 1).x) 28 (kc6)),(3,.osl ((a 2).ob) ((a 2).cap) 31 7 []),(4,.osl ((c 2).ob) ((c 2).cap) 94 5 []),(5,.osl ((d 2).ob) ((d 2).cap) 91 4 [])]) rfl (congrArg (fun rr : List (List Value) => ([(1,.cells ((b 0).x) 28 (kc9 ((a 2).ob) ((a 2).cap) ((c 2).ob) ((c 2).cap) ((d 2).ob) ((d 2).cap))),(2,.cells ((b 1).x) 28 (kc6)),(3,.osl ((a 2).ob) ((a 2).cap) 31 7 []),(4,.osl ((c 2).ob) ((c 2).cap) 94 5 []),(5,.osl ((d 2).ob) ((d 2).cap) 91 4 rr)] : List (Nat × Ent))) (show ([] : List (List Value)) = ([] : List (List Value)) from rfl)) ?_
  refine GS.seq ?_
  refine GS.tg (fun _ => [(2,pA ((b 1).x) 0)]) (fun _ => [(2,.cells ((b 1).x) 28 (kc9 ((a 2).ob) ((a 2).cap) ((c 2).ob) ((c 2).cap) ((d 2).ob) ((d 2).cap))),(3,.osl ((a 2).ob) ((a 2).cap) 31 7 []),(4,.osl ((c 2).ob) ((c 2).cap) 94 5 []),(5,.osl ((d 2).ob) ((d 2).cap) 91 4 [])]) [(0,{ act := .load 1 0 0 [] }),(1,{ act := .store 0 0 [],key := some 2 })] (fun _ => [(b 0).x = (b 0).x,(b 1).x = (b 1).x,oC (.agg ((kc9 ((a 2).ob) ((a 2).cap) ((c 2).ob) ((c 2).cap) ((d 2).ob) ((d 2).cap))).toArray)]) (fun _ => ⟨rfl,rfl,rfl,trivial⟩) ?_
  intro _
  have hy := Option.some.inj hm
  subst hy
  refine GS.ret (fn := Tryz.f32) [2] [.agg ((kc9 ((a 2).ob) ((a 2).cap) ((c 2).ob) ((c 2).cap) ((d 2).ob) ((d 2).cap))).toArray] [(b 1).x = (b 1).x] rfl Tryz.func32 (by kernel_rfl) ⟨rfl,trivial⟩ (fun w' hs => ?_)
  exact ⟨⟨(a 2).ob,(a 2).cap,(c 2).ob,(c 2).cap,(d 2).ob,(d 2).cap⟩,rfl,hs.turnedG (ks := [3,4,5]) rfl rfl⟩

end Go.Proofs.YtjnbkhnebmlilaaGreat
