/-
  CHAPTER 13g: the functions do what their models say (1).
-/
import Derived.Test.YtmoaiokgbjkaaaaM13g
set_option linter.unusedVariables false
set_option linter.unusedSimpArgs false
set_option maxRecDepth 100000
set_option maxHeartbeats 8000000
namespace Go.Proofs.Ytmoaiokgbjkaaaa
open Go Go.RowKit Sx

theorem w_cmp_isNaN_int_ (F : Nat) (a0 : Int) {y : Bool} (hm : m_cmp_isNaN_int_ F a0 = some y) : CallG Try.prog 46 #[.int .i64 a0] (X := Unit) (fun (_ : Unit) => .bool y) [] [] (fun (_ : Unit) => []) := by
  intro w hg
  rw [m_cmp_isNaN_int_] at hm
  refine GS.start (S := mayT [] []) (mem := []) Try.func46 rfl Try.ntmps46 (Nat.le_of_ble_eq_true rfl) (hg.start rfl) ?_
  refine GS.conv (env' := [(0, .int .i64 a0)]) rfl rfl ?_
  refine GS.seq ?_
  refine GS.rzM (fun _ => [(0, .int .i64 a0)]) [] [0] [] (fun _ => by kernel_rfl) ?_
  intro _
  refine GS.seq ?_
  refine GS.rzM (fun _ => [(2, .bool (a0 != a0))]) [] [2] [] (fun _ => by kernel_rfl) ?_
  intro _
  have hy := Option.some.inj hm
  subst hy
  refine GS.ret (fn := Try.f46) [0] [.bool (a0 != a0)] [] rfl Try.func46 (by kernel_rfl) trivial (fun w' hs => ?_)
  exact ⟨(), rfl, hs.turnedG (ks := []) rfl rfl⟩

theorem w_cmp_Compare_int_ (F : Nat) (a0 : Int) (a1 : Int) {y : Int} (hm : m_cmp_Compare_int_ F a0 a1 = some y) : CallG Try.prog 29 #[.int .i64 a0, .int .i64 a1] (X := Unit) (fun (_ : Unit) => .int .i64 y) [] [] (fun (_ : Unit) => []) := by
  intro w hg
  rw [m_cmp_Compare_int_] at hm
  refine GS.start (S := mayT [] []) (mem := []) Try.func29 rfl Try.ntmps29 (Nat.le_of_ble_eq_true rfl) (hg.start rfl) ?_
  refine GS.conv (env' := [(0, .int .i64 a0), (1, .int .i64 a1)]) rfl rfl ?_
  refine GS.seq ?_
  refine GS.rzM (fun _ => [(0, .int .i64 a0), (1, .int .i64 a1)]) [] [0, 1] [] (fun _ => by kernel_rfl) ?_
  intro _
  refine GS.seq ?_
  refine bnd_elim hm (fun y3 e4 hm => ?_)
  refine GS.rgM (fun _ => [(0, .int .i64 a0), (1, .int .i64 a1), (5, .bool y3)]) [(1, { act := .call [] (.bool y3) })] [0, 1, 5] [] (fun _ => [CallOK Try.prog 46 #[.int .i64 a0] (.bool y3) []]) (fun _ => by kernel_rfl) (fun _ => ⟨(by have h1 := w_cmp_isNaN_int_ F a0 e4; exact h1.ok trivial), trivial⟩) ?_
  intro _
  refine GS.seq ?_
  refine bnd_elim hm (fun y6 e7 hm => ?_)
  refine GS.rgM (fun _ => [(0, .int .i64 a0), (1, .int .i64 a1), (5, .bool y3), (6, .bool y6)]) [(1, { act := .call [] (.bool y6) })] [0, 1, 5, 6] [] (fun _ => [CallOK Try.prog 46 #[.int .i64 a1] (.bool y6) []]) (fun _ => by kernel_rfl) (fun _ => ⟨(by have h1 := w_cmp_isNaN_int_ F a1 e7; exact h1.ok trivial), trivial⟩) ?_
  intro _
  refine GS.seq ?_
  refine GS.seq ?_
  refine GS.rzM (fun _ => [(0, .int .i64 a0), (1, .int .i64 a1), (6, .bool y6), (11, .bool y3)]) [] [0, 1, 6, 11] [] (fun _ => by kernel_rfl) ?_
  intro _
  refine GS.cond (t := y3) rfl rfl (fun h9 => ?_) (fun h9 => ?_)
  · replace hm := br_t h9 hm
    refine GS.seq ?_
    refine GS.seq ?_
    refine GS.rzM (fun _ => [(12, .bool y6)]) [] [12] [] (fun _ => by kernel_rfl) ?_
    intro _
    refine GS.cond (t := y6) rfl rfl (fun h11 => ?_) (fun h11 => ?_)
    · replace hm := br_t h11 hm
      refine GS.seq ?_
      refine GS.rzM (fun _ => [(4, .int .i64 0)]) [] [4] [] (fun _ => by kernel_rfl) ?_
      intro _
      have hy := Option.some.inj hm
      subst hy
      refine GS.ret (fn := Try.f29) [0] [.int .i64 0] [] rfl Try.func29 (by kernel_rfl) trivial (fun w' hs => ?_)
      exact ⟨(), rfl, hs.turnedG (ks := []) rfl rfl⟩
    · replace hm := br_f h11 hm
      refine GS.skip ?_
      refine GS.seq ?_
      refine GS.rzM (fun _ => [(4, .int .i64 (-1))]) [] [4] [] (fun _ => by kernel_rfl) ?_
      intro _
      have hy := Option.some.inj hm
      subst hy
      refine GS.ret (fn := Try.f29) [0] [.int .i64 (-1)] [] rfl Try.func29 (by kernel_rfl) trivial (fun w' hs => ?_)
      exact ⟨(), rfl, hs.turnedG (ks := []) rfl rfl⟩
  · replace hm := br_f h9 hm
    refine GS.skip ?_
    refine GS.seq ?_
    refine GS.seq ?_
    refine GS.rzM (fun _ => [(0, .int .i64 a0), (1, .int .i64 a1), (13, .bool y6)]) [] [0, 1, 13] [] (fun _ => by kernel_rfl) ?_
    intro _
    refine GS.cond (t := y6) rfl rfl (fun h15 => ?_) (fun h15 => ?_)
    · replace hm := br_t h15 hm
      refine GS.seq ?_
      refine GS.rzM (fun _ => [(4, .int .i64 1)]) [] [4] [] (fun _ => by kernel_rfl) ?_
      intro _
      have hy := Option.some.inj hm
      subst hy
      refine GS.ret (fn := Try.f29) [0] [.int .i64 1] [] rfl Try.func29 (by kernel_rfl) trivial (fun w' hs => ?_)
      exact ⟨(), rfl, hs.turnedG (ks := []) rfl rfl⟩
    · replace hm := br_f h15 hm
      refine GS.skip ?_
      refine GS.seq ?_
      refine GS.seq ?_
      refine GS.rzM (fun _ => [(0, .int .i64 a0), (1, .int .i64 a1), (16, .bool (decide (a0 < a1)))]) [] [0, 1, 16] [] (fun _ => by kernel_rfl) ?_
      intro _
      refine GS.cond (t := decide (a0 < a1)) rfl rfl (fun h18 => ?_) (fun h18 => ?_)
      · replace hm := br_t h18 hm
        refine GS.seq ?_
        refine GS.rzM (fun _ => [(4, .int .i64 (-1))]) [] [4] [] (fun _ => by kernel_rfl) ?_
        intro _
        have hy := Option.some.inj hm
        subst hy
        refine GS.ret (fn := Try.f29) [0] [.int .i64 (-1)] [] rfl Try.func29 (by kernel_rfl) trivial (fun w' hs => ?_)
        exact ⟨(), rfl, hs.turnedG (ks := []) rfl rfl⟩
      · replace hm := br_f h18 hm
        refine GS.skip ?_
        refine GS.seq ?_
        refine GS.seq ?_
        refine GS.rzM (fun _ => [(19, .bool (decide (a0 > a1)))]) [] [19] [] (fun _ => by kernel_rfl) ?_
        intro _
        refine GS.cond (t := decide (a0 > a1)) rfl rfl (fun h21 => ?_) (fun h21 => ?_)
        · replace hm := br_t h21 hm
          refine GS.seq ?_
          refine GS.rzM (fun _ => [(4, .int .i64 1)]) [] [4] [] (fun _ => by kernel_rfl) ?_
          intro _
          have hy := Option.some.inj hm
          subst hy
          refine GS.ret (fn := Try.f29) [0] [.int .i64 1] [] rfl Try.func29 (by kernel_rfl) trivial (fun w' hs => ?_)
          exact ⟨(), rfl, hs.turnedG (ks := []) rfl rfl⟩
        · replace hm := br_f h21 hm
          refine GS.skip ?_
          refine GS.seq ?_
          refine GS.rzM (fun _ => [(4, .int .i64 0)]) [] [4] [] (fun _ => by kernel_rfl) ?_
          intro _
          have hy := Option.some.inj hm
          subst hy
          refine GS.ret (fn := Try.f29) [0] [.int .i64 0] [] rfl Try.func29 (by kernel_rfl) trivial (fun w' hs => ?_)
          exact ⟨(), rfl, hs.turnedG (ks := []) rfl rfl⟩

theorem w_pglog_Cmp (F : Nat) (a0 : S_api_Version) (a1 : S_api_Version) {y : Int} (hm : m_pglog_Cmp F a0 a1 = some y) : CallG Try.prog 7 #[.agg #[.int .i64 a0.Epoch, .int .i64 a0.N], .agg #[.int .i64 a1.Epoch, .int .i64 a1.N]] (X := Unit) (fun (_ : Unit) => .int .i64 y) [] [] (fun (_ : Unit) => []) := by
  intro w hg
  rw [m_pglog_Cmp] at hm
  refine GS.start (S := mayT [] []) (mem := []) Try.func7 rfl Try.ntmps7 (Nat.le_of_ble_eq_true rfl) (hg.start rfl) ?_
  refine GS.conv (env' := [(0, .agg #[.int .i64 a0.Epoch, .int .i64 a0.N]), (1, .agg #[.int .i64 a1.Epoch, .int .i64 a1.N])]) rfl rfl ?_
  refine GS.seq ?_
  refine GS.rz (fun fr1 => [(2, .pointer (some ⟨(fr1 0).x, 0, none⟩)), (3, .pointer (some ⟨(fr1 1).x, 0, none⟩))]) (fun fr1 => [(1, .cells ((fr1 0).x) 23 [.int .i64 a0.Epoch, .int .i64 a0.N]), (2, .cells ((fr1 1).x) 23 [.int .i64 a1.Epoch, .int .i64 a1.N])]) [(0, { act := .new .var, key := some 1 }), (1, { act := .new .var, key := some 2 })] [2, 3] [1, 2] (fun fr1 => by kernel_rfl) ?_
  intro fr1
  refine GS.seq ?_
  refine GS.seq ?_
  refine bnd_elim hm (fun y3 e4 hm => ?_)
  refine GS.rgM (fun _ => [(2, .pointer (some ⟨(fr1 0).x, 0, none⟩)), (3, .pointer (some ⟨(fr1 1).x, 0, none⟩)), (5, .int .i64 y3)]) [(1, { act := .load 1 0 0 [] }), (3, { act := .load 2 0 0 [] }), (4, { act := .call [] (.int .i64 y3) })] [2, 3, 5] [1, 2] (fun _ => [(fr1 0).x = (fr1 0).x, (fr1 1).x = (fr1 1).x, CallOK Try.prog 29 #[.int .i64 a0.Epoch, .int .i64 a1.Epoch] (.int .i64 y3) []]) (fun _ => by kernel_rfl) (fun _ => ⟨rfl, rfl, (by have h1 := w_cmp_Compare_int_ F a0.Epoch a1.Epoch e4; exact h1.ok trivial), trivial⟩) ?_
  intro _
  refine GS.seq ?_
  refine GS.rzM (fun _ => [(2, .pointer (some ⟨(fr1 0).x, 0, none⟩)), (3, .pointer (some ⟨(fr1 1).x, 0, none⟩)), (5, .int .i64 y3), (12, .bool (y3 != 0))]) [] [2, 3, 5, 12] [1, 2] (fun _ => by kernel_rfl) ?_
  intro _
  refine GS.cond (t := y3 != 0) rfl rfl (fun h6 => ?_) (fun h6 => ?_)
  · replace hm := br_t h6 hm
    refine GS.seq ?_
    refine GS.rz (fun _ => [(4, .int .i64 y3)]) (fun _ => []) [] [4] [] (fun _ => by kernel_rfl) ?_
    intro _
    have hy := Option.some.inj hm
    subst hy
    refine GS.ret (fn := Try.f7) [0] [.int .i64 y3] [] rfl Try.func7 (by kernel_rfl) trivial (fun w' hs => ?_)
    exact ⟨(), rfl, hs.turnedG (ks := []) rfl rfl⟩
  · replace hm := br_f h6 hm
    refine GS.skip ?_
    refine GS.seq ?_
    refine bnd_elim hm (fun y9 e10 hm => ?_)
    refine GS.rg (fun _ => [(4, .int .i64 y9)]) (fun _ => []) [(1, { act := .load 1 0 0 [] }), (3, { act := .load 2 0 0 [] }), (4, { act := .call [] (.int .i64 y9) })] [4] [] (fun _ => [(fr1 0).x = (fr1 0).x, (fr1 1).x = (fr1 1).x, CallOK Try.prog 29 #[.int .i64 a0.N, .int .i64 a1.N] (.int .i64 y9) []]) (fun _ => by kernel_rfl) (fun _ => ⟨rfl, rfl, (by have h1 := w_cmp_Compare_int_ F a0.N a1.N e10; exact h1.ok trivial), trivial⟩) ?_
    intro _
    have hy := Option.some.inj hm
    subst hy
    refine GS.ret (fn := Try.f7) [0] [.int .i64 y9] [] rfl Try.func7 (by kernel_rfl) trivial (fun w' hs => ?_)
    exact ⟨(), rfl, hs.turnedG (ks := []) rfl rfl⟩

theorem w_place_Good (F : Nat) (a0 : ByteArray) {y : Bool} (hm : m_place_Good F a0 = some y) : CallG Try.prog 38 #[.string a0] (X := Unit) (fun (_ : Unit) => .bool y) [] [] (fun (_ : Unit) => []) := by
  intro w hg
  rw [m_place_Good] at hm
  refine GS.start (S := mayT [] []) (mem := []) Try.func38 rfl Try.ntmps38 (Nat.le_of_ble_eq_true rfl) (hg.start rfl) ?_
  refine GS.conv (env' := [(0, .string a0)]) rfl rfl ?_
  refine GS.seq ?_
  refine GS.rzM (fun _ => [(0, .string a0)]) [] [0] [] (fun _ => by kernel_rfl) ?_
  intro _
  refine GS.seq ?_
  refine GS.seq ?_
  refine GS.rzM (fun _ => [(0, .string a0), (6, .int .i64 ((a0.size : Nat) : Int)), (7, .int .i64 0)]) [] [0, 6, 7] [] (fun _ => by kernel_rfl) ?_
  intro _
  refine GS.block ?_
  refine GS.loop ?_
  refine grd_elim hm (fun g33 hm => ?_)
  refine GS.rekey (env' := [(0, .string a0), (6, .int .i64 ((a0.size : Nat) : Int)), (7, .int .i64 0)]) (mem' := []) [0, 6, 7] [] (by kernel_rfl) (by kernel_rfl) rfl ?_
  refine loopC_elim hm (fun st53 fn54 hst55 hfn56 hm => ?_)
  refine GS.loopInv (ι := Nat × Nat) (I := fun ⟨rs51, v7_1⟩ => ((((a0.size : Nat) : Int)) - ((v7_1 : Nat) : Int) : Int).toNat = rs51 ∧ loopC st53 fn54 rs51 v7_1 () = some y) (μ := fun ⟨rs51, v7_1⟩ => rs51) (E := fun ⟨rs51, v7_1⟩ => [(0, .string a0), (6, .int .i64 ((a0.size : Nat) : Int)), (7, .int .i64 ((v7_1 : Nat) : Int))]) (M := fun ⟨rs51, v7_1⟩ => []) ?_ ⟨(Int.toNat (((a0.size : Nat) : Int) - ((0 : Nat) : Int))), 0⟩ ⟨rfl, hm⟩
  rintro ⟨rs51, v7_1⟩ ⟨hd32, hm⟩ ih52
  cases rs51 with
  | zero =>
    replace hm := (hfn56 _ _).symm.trans hm
    try dsimp only at hm
    refine GS.seq ?_
    refine GS.rzM (fun _ => [(0, .string a0), (6, .int .i64 ((a0.size : Nat) : Int)), (7, .int .i64 ((v7_1 : Nat) : Int)), (8, .bool (decide (((v7_1 : Nat) : Int) < ((a0.size : Nat) : Int))))]) [] [0, 6, 7, 8] [] (fun _ => by kernel_rfl) ?_
    intro _
    refine GS.seq ?_
    refine GS.cond (t := decide (((v7_1 : Nat) : Int) < ((a0.size : Nat) : Int))) rfl rfl (fun h49 => absb h49 (cnt0 hd32)) (fun _ => ?_)
    refine GS.exit rfl ?_
    refine GS.seq ?_
    refine br_elim hm (fun h58 hm => ?_) (fun h58 hm => ?_)
    · skip
      refine GS.rgM (fun _ => [(2, .bool (decide (((a0.size : Nat) : Int) ≤ 64)))]) [(2, { sp := some (.bool true) })] [2] [] (fun _ => [((.bool (!(a0.toList == (ByteArray.mk #[]).toList))) : Value) = .bool true]) (fun _ => by kernel_rfl) (fun _ => ⟨bool_eq h58, trivial⟩) ?_
      intro _
      have hy := Option.some.inj hm
      subst hy
      refine GS.ret (fn := Try.f38) [0] [.bool (decide (((a0.size : Nat) : Int) ≤ 64))] [] rfl Try.func38 (by kernel_rfl) trivial (fun w' hs => ?_)
      exact ⟨(), rfl, hs.turnedG (ks := []) rfl rfl⟩
    · skip
      refine GS.rgM (fun _ => [(2, .bool false)]) [(2, { sp := some (.bool false) })] [2] [] (fun _ => [((.bool (!(a0.toList == (ByteArray.mk #[]).toList))) : Value) = .bool false]) (fun _ => by kernel_rfl) (fun _ => ⟨bool_eq h58, trivial⟩) ?_
      intro _
      have hy := Option.some.inj hm
      subst hy
      refine GS.ret (fn := Try.f38) [0] [.bool false] [] rfl Try.func38 (by kernel_rfl) trivial (fun w' hs => ?_)
      exact ⟨(), rfl, hs.turnedG (ks := []) rfl rfl⟩
  | succ rs51 =>
    replace hm := (hst55 _ _ _).symm.trans hm
    try dsimp only at hm
    refine GS.seq ?_
    refine GS.rzM (fun _ => [(0, .string a0), (6, .int .i64 ((a0.size : Nat) : Int)), (7, .int .i64 ((v7_1 : Nat) : Int)), (8, .bool (decide (((v7_1 : Nat) : Int) < ((a0.size : Nat) : Int))))]) [] [0, 6, 7, 8] [] (fun _ => by kernel_rfl) ?_
    intro _
    refine GS.seq ?_
    refine GS.cond (t := decide (((v7_1 : Nat) : Int) < ((a0.size : Nat) : Int))) rfl rfl (fun _ => ?_) (fun h35 => absb (cnt1 hd32) h35)
    refine GS.skip ?_
    refine GS.seq ?_
    refine GS.block ?_
    refine GS.seq ?_
    refine GS.rzM (fun _ => [(0, .string a0), (3, .int .i64 ((v7_1 : Nat) : Int)), (6, .int .i64 ((a0.size : Nat) : Int)), (7, .int .i64 ((v7_1 : Nat) : Int))]) [] [0, 3, 6, 7] [] (fun _ => by kernel_rfl) ?_
    intro _
    refine GS.seq ?_
    refine grd_elim hm (fun g38 hm => ?_)
    refine GS.rgM (fun _ => [(0, .string a0), (4, .int .u8 (((a0.data.getD v7_1 0).toNat : Nat) : Int)), (6, .int .i64 ((a0.size : Nat) : Int)), (7, .int .i64 ((v7_1 : Nat) : Int))]) [(2, { act := .elt v7_1 })] [0, 4, 6, 7] [] (fun _ => [(((v7_1 : Nat) : Int) : Int) = ((v7_1 : Nat) : Int), v7_1 < a0.size]) (fun _ => by kernel_rfl) (fun _ => ⟨rfl, g38, trivial⟩) ?_
    intro _
    refine GS.block ?_
    refine GS.seq ?_
    refine GS.seq ?_
    refine GS.rzM (fun _ => [(0, .string a0), (4, .int .u8 (((a0.data.getD v7_1 0).toNat : Nat) : Int)), (6, .int .i64 ((a0.size : Nat) : Int)), (7, .int .i64 ((v7_1 : Nat) : Int)), (13, .bool (decide ((((a0.data.getD v7_1 0).toNat : Nat) : Int) < 33)))]) [] [0, 4, 6, 7, 13] [] (fun _ => by kernel_rfl) ?_
    intro _
    refine jn_elim hm (fun J42 hJ44 hm => ?_)
    refine GS.cut (ι := Bool) (I := fun (v13_4 : Bool) => J42 v13_4 = some y) (E := fun (v13_4 : Bool) => [(0, .string a0), (6, .int .i64 ((a0.size : Nat) : Int)), (7, .int .i64 ((v7_1 : Nat) : Int)), (13, .bool v13_4)]) (M := fun (v13_4 : Bool) => []) ?_ ?_
    rotate_left
    · intro H43
      refine GS.cond (t := decide ((((a0.data.getD v7_1 0).toNat : Nat) : Int) < 33)) rfl rfl (fun h40 => ?_) (fun h40 => ?_)
      · replace hm := br_t h40 hm
        refine GS.skip ?_
        refine GS.rekey (env' := [(0, .string a0), (6, .int .i64 ((a0.size : Nat) : Int)), (7, .int .i64 ((v7_1 : Nat) : Int)), (13, .bool (decide ((((a0.data.getD v7_1 0).toNat : Nat) : Int) < 33)))]) (mem' := []) [0, 6, 7, 13] [] (by kernel_rfl) (by kernel_rfl) rfl ?_
        exact H43 (decide ((((a0.data.getD v7_1 0).toNat : Nat) : Int) < 33)) hm
      · replace hm := br_f h40 hm
        refine GS.rzM (fun _ => [(0, .string a0), (6, .int .i64 ((a0.size : Nat) : Int)), (7, .int .i64 ((v7_1 : Nat) : Int)), (13, .bool (decide ((((a0.data.getD v7_1 0).toNat : Nat) : Int) > 126)))]) [] [0, 6, 7, 13] [] (fun _ => by kernel_rfl) ?_
        intro _
        refine GS.rekey (env' := [(0, .string a0), (6, .int .i64 ((a0.size : Nat) : Int)), (7, .int .i64 ((v7_1 : Nat) : Int)), (13, .bool (decide ((((a0.data.getD v7_1 0).toNat : Nat) : Int) > 126)))]) (mem' := []) [0, 6, 7, 13] [] (by kernel_rfl) (by kernel_rfl) rfl ?_
        exact H43 (decide ((((a0.data.getD v7_1 0).toNat : Nat) : Int) > 126)) hm
    · rintro v13_4 hm
      replace hm := (hJ44 _).symm.trans hm
      try dsimp only at hm
      refine GS.cond (t := v13_4) rfl rfl (fun h45 => ?_) (fun h45 => ?_)
      · replace hm := br_t h45 hm
        refine GS.seq ?_
        refine GS.rzM (fun _ => [(2, .bool false)]) [] [2] [] (fun _ => by kernel_rfl) ?_
        intro _
        have hy := Option.some.inj hm
        subst hy
        refine GS.ret (fn := Try.f38) [0] [.bool false] [] rfl Try.func38 (by kernel_rfl) trivial (fun w' hs => ?_)
        exact ⟨(), rfl, hs.turnedG (ks := []) rfl rfl⟩
      · replace hm := br_f h45 hm
        refine GS.skip ?_
        refine GS.inBlock ?_
        refine GS.inBlock ?_
        refine GS.rgM (fun _ => [(0, .string a0), (6, .int .i64 ((a0.size : Nat) : Int)), (7, .int .i64 ((v7_1 + 1 : Nat) : Int))]) [(0, { sp := some (.int .i64 ((v7_1 + 1 : Nat) : Int)) })] [0, 6, 7] [] (fun _ => [((.int .i64 (IntKind.i64.wrap (((v7_1 : Nat) : Int) + 1))) : Value) = .int .i64 ((v7_1 + 1 : Nat) : Int)]) (fun _ => by kernel_rfl) (fun _ => ⟨natwB (cnt1 hd32) g33, trivial⟩) ?_
        intro _
        refine GS.inLoop ?_
        refine GS.rekey (env' := [(0, .string a0), (6, .int .i64 ((a0.size : Nat) : Int)), (7, .int .i64 ((v7_1 + 1 : Nat) : Int))]) (mem' := []) [0, 6, 7] [] (by kernel_rfl) (by kernel_rfl) rfl ?_
        exact ih52 ⟨rs51, v7_1 + 1⟩ ⟨cntN hd32, hm⟩ (Nat.lt_succ_self _)

theorem w_pglog_lastClient (F : Nat) (a0 : S_api_Last) {y : Int} (hm : m_pglog_lastClient F a0 = some y) : CallG Try.prog 37 #[.agg ((kc10 a0.Client a0.Number a0.Errno a0.Version.Epoch a0.Version.N)).toArray] (X := Unit) (fun (_ : Unit) => .int .i64 y) [] [] (fun (_ : Unit) => []) := by
  intro w hg
  rw [m_pglog_lastClient] at hm
  refine GS.start (S := mayT [] []) (mem := []) Try.func37 rfl Try.ntmps37 (Nat.le_of_ble_eq_true rfl) (hg.start rfl) ?_
  refine GS.conv (env' := [(0, .agg ((kc10 a0.Client a0.Number a0.Errno a0.Version.Epoch a0.Version.N)).toArray)]) rfl rfl ?_
  refine GS.seq ?_
  refine GS.rz (fun fr1 => [(1, .pointer (some ⟨(fr1 0).x, 0, none⟩))]) (fun fr1 => [(1, .cells ((fr1 0).x) 47 (kc10 a0.Client a0.Number a0.Errno a0.Version.Epoch a0.Version.N))]) [(0, { act := .new .var, key := some 1 })] [1] [1] (fun fr1 => by kernel_rfl) ?_
  intro fr1
  refine GS.seq ?_
  refine GS.rg (fun _ => [(2, .int .i64 a0.Client)]) (fun _ => []) [(1, { act := .load 1 0 0 [] })] [2] [] (fun _ => [(fr1 0).x = (fr1 0).x]) (fun _ => by kernel_rfl) (fun _ => ⟨rfl, trivial⟩) ?_
  intro _
  have hy := Option.some.inj hm
  subst hy
  refine GS.ret (fn := Try.f37) [0] [.int .i64 a0.Client] [] rfl Try.func37 (by kernel_rfl) trivial (fun w' hs => ?_)
  exact ⟨(), rfl, hs.turnedG (ks := []) rfl rfl⟩

theorem w_pglog_look_api_Last_int__1 (F : Nat) (a0 : S_api_Last) (a1 : Int) (a2b : Nat) {y : Int} (hm : m_pglog_look_api_Last_int__1 F a0 a1 = some y) : CallG Try.prog 48 #[.agg ((kc10 a0.Client a0.Number a0.Errno a0.Version.Epoch a0.Version.N)).toArray, .int .i64 a1, .pointer (some ⟨a2b, 0, none⟩)] (X := Unit) (fun (_ : Unit) => .int .i64 y) [] [.rd (some ⟨a2b, 0, none⟩) 1 [[.func (.func 37) #[] #[]]]] (fun (_ : Unit) => []) := by
  intro w hg
  rw [m_pglog_look_api_Last_int__1] at hm
  refine GS.start (S := mayT [] [.rd (some ⟨a2b, 0, none⟩) 1 [[.func (.func 37) #[] #[]]]]) (mem := [(1, .rd (some ⟨a2b, 0, none⟩) 1 [[.func (.func 37) #[] #[]]])]) Try.func48 rfl Try.ntmps48 (Nat.le_of_ble_eq_true rfl) (hg.start rfl) ?_
  refine GS.conv (env' := [(0, .agg ((kc10 a0.Client a0.Number a0.Errno a0.Version.Epoch a0.Version.N)).toArray), (1, .int .i64 a1), (2, .pointer (some ⟨a2b, 0, none⟩))]) rfl rfl ?_
  refine GS.seq ?_
  refine GS.rz (fun fr1 => [(1, .int .i64 a1), (2, .pointer (some ⟨a2b, 0, none⟩)), (3, .pointer (some ⟨(fr1 0).x, 0, none⟩))]) (fun fr1 => [(1, .rd (some ⟨a2b, 0, none⟩) 1 [[.func (.func 37) #[] #[]]]), (2, .cells ((fr1 0).x) 47 (kc10 a0.Client a0.Number a0.Errno a0.Version.Epoch a0.Version.N))]) [(0, { act := .new .var, key := some 2 })] [1, 2, 3] [1, 2] (fun fr1 => by kernel_rfl) ?_
  intro fr1
  refine GS.seq ?_
  refine bnd_elim hm (fun y3 e4 hm => ?_)
  refine bnd_elim hm (fun y5 e6 hm => ?_)
  refine GS.rg (fun _ => [(5, .int .i64 y5)]) (fun _ => []) [(0, { act := .load 1 0 0 [.func (.func 37) #[] #[]] }), (1, { act := .load 2 0 0 [] }), (2, { act := .call [] (.int .i64 y3) }), (4, { act := .call [] (.int .i64 y5) })] [5] [] (fun _ => [a2b = blk (some ⟨a2b, 0, none⟩), 0 = offs (some ⟨a2b, 0, none⟩) + (0 * 1 + 0), ([[.func (.func 37) #[] #[]]] : List (List Value))[0]? = some [.func (.func 37) #[] #[]], (fr1 0).x = (fr1 0).x, CallOK Try.prog 37 #[.agg ((kc10 a0.Client a0.Number a0.Errno a0.Version.Epoch a0.Version.N)).toArray] (.int .i64 y3) [], CallOK Try.prog 29 #[.int .i64 y3, .int .i64 a1] (.int .i64 y5) []]) (fun _ => by kernel_rfl) (fun _ => ⟨rfl, rfl, rfl, rfl, (by have h1 := w_pglog_lastClient F a0 e4; exact h1.ok trivial), (by have h1 := w_cmp_Compare_int_ F y3 a1 e6; exact h1.ok trivial), trivial⟩) ?_
  intro _
  have hy := Option.some.inj hm
  subst hy
  refine GS.ret (fn := Try.f48) [0] [.int .i64 y5] [] rfl Try.func48 (by kernel_rfl) trivial (fun w' hs => ?_)
  exact ⟨(), rfl, hs.turnedG (ks := []) rfl rfl⟩

theorem w_slices_BinarySearchFunc___api_Last_api_Last_int_ (F : Nat) (a0_o : Option Addr) (a0_c : Nat) (a0 : List S_api_Last) (a1 : Int) (a2c0b : Nat) {y : Int × Bool} (hm : m_slices_BinarySearchFunc___api_Last_api_Last_int_ F a0 a1 = some y) : CallG Try.prog 47 #[.slice a0_o a0.length a0_c, .int .i64 a1, .func (.func 48) #[] #[.pointer (some ⟨a2c0b, 0, none⟩)]] (X := Unit) (fun (_ : Unit) => .tuple #[.int .i64 y.1, .bool y.2]) [] [r47 a0_o a0, .rd (some ⟨a2c0b, 0, none⟩) 1 [[.func (.func 37) #[] #[]]]] (fun (_ : Unit) => []) := by
  intro w hg
  rw [m_slices_BinarySearchFunc___api_Last_api_Last_int_] at hm
  refine GS.start (S := mayT [] [r47 a0_o a0, .rd (some ⟨a2c0b, 0, none⟩) 1 [[.func (.func 37) #[] #[]]]]) (mem := [(1, r47 a0_o a0), (2, .rd (some ⟨a2c0b, 0, none⟩) 1 [[.func (.func 37) #[] #[]]])]) Try.func47 rfl Try.ntmps47 (Nat.le_of_ble_eq_true rfl) (hg.start rfl) ?_
  refine GS.conv (env' := [(0, .slice a0_o a0.length a0_c), (1, .int .i64 a1), (2, .func (.func 48) #[] #[.pointer (some ⟨a2c0b, 0, none⟩)])]) rfl rfl ?_
  refine GS.seq ?_
  refine GS.rzM (fun _ => [(0, .slice a0_o a0.length a0_c), (1, .int .i64 a1), (2, .func (.func 48) #[] #[.pointer (some ⟨a2c0b, 0, none⟩)])]) [] [0, 1, 2] [1, 2] (fun _ => by kernel_rfl) ?_
  intro _
  refine GS.seq ?_
  refine GS.rzM (fun _ => [(0, .slice a0_o a0.length a0_c), (1, .int .i64 a1), (2, .func (.func 48) #[] #[.pointer (some ⟨a2c0b, 0, none⟩)]), (8, .int .i64 ((a0.length : Nat) : Int))]) [] [0, 1, 2, 8] [1, 2] (fun _ => by kernel_rfl) ?_
  intro _
  refine GS.seq ?_
  refine GS.rzM (fun _ => [(0, .slice a0_o a0.length a0_c), (1, .int .i64 a1), (2, .func (.func 48) #[] #[.pointer (some ⟨a2c0b, 0, none⟩)]), (8, .int .i64 ((a0.length : Nat) : Int)), (9, .int .i64 0), (10, .int .i64 ((a0.length : Nat) : Int))]) [] [0, 1, 2, 8, 9, 10] [1, 2] (fun _ => by kernel_rfl) ?_
  intro _
  refine GS.seq ?_
  refine GS.block ?_
  refine GS.loop ?_
  refine GS.rekey (env' := [(0, .slice a0_o a0.length a0_c), (1, .int .i64 a1), (2, .func (.func 48) #[] #[.pointer (some ⟨a2c0b, 0, none⟩)]), (8, .int .i64 ((a0.length : Nat) : Int)), (9, .int .i64 0), (10, .int .i64 ((a0.length : Nat) : Int))]) (mem' := [(1, r47 a0_o a0), (2, .rd (some ⟨a2c0b, 0, none⟩) 1 [[.func (.func 37) #[] #[]]])]) [0, 1, 2, 8, 9, 10] [(1, 1), (2, 2)] (by kernel_rfl) (by kernel_rfl) rfl ?_
  refine loopW_elim hm (fun st62 hst64 hm => ?_)
  refine GS.loopInv (ι := Nat × Int × Int) (I := fun ⟨rs60, v9_1, v10_1⟩ => loopW st62 rs60 (v9_1, v10_1) = some y) (μ := fun ⟨rs60, v9_1, v10_1⟩ => rs60) (E := fun ⟨rs60, v9_1, v10_1⟩ => [(0, .slice a0_o a0.length a0_c), (1, .int .i64 a1), (2, .func (.func 48) #[] #[.pointer (some ⟨a2c0b, 0, none⟩)]), (8, .int .i64 ((a0.length : Nat) : Int)), (9, .int .i64 v9_1), (10, .int .i64 v10_1)]) (M := fun ⟨rs60, v9_1, v10_1⟩ => [(1, r47 a0_o a0), (2, .rd (some ⟨a2c0b, 0, none⟩) 1 [[.func (.func 37) #[] #[]]])]) ?_ ⟨F, 0, ((a0.length : Nat) : Int)⟩ hm
  rintro ⟨rs60, v9_1, v10_1⟩ hm ih61
  cases rs60 with
  | zero => cases hm
  | succ rs60 =>
    replace hm := (hst64 _ _).symm.trans hm
    try dsimp only at hm
    refine GS.seq ?_
    refine GS.seq ?_
    refine GS.rzM (fun _ => [(0, .slice a0_o a0.length a0_c), (1, .int .i64 a1), (2, .func (.func 48) #[] #[.pointer (some ⟨a2c0b, 0, none⟩)]), (8, .int .i64 ((a0.length : Nat) : Int)), (9, .int .i64 v9_1), (10, .int .i64 v10_1), (17, .bool (decide (v9_1 < v10_1)))]) [] [0, 1, 2, 8, 9, 10, 17] [1, 2] (fun _ => by kernel_rfl) ?_
    intro _
    refine GS.cond (t := decide (v9_1 < v10_1)) rfl rfl (fun h42 => ?_) (fun h42 => ?_)
    · replace hm := br_t h42 hm
      refine GS.skip ?_
      refine GS.block ?_
      refine GS.seq ?_
      refine grd_elim hm (fun g44 hm => ?_)
      refine GS.rgM (fun _ => [(0, .slice a0_o a0.length a0_c), (1, .int .i64 a1), (2, .func (.func 48) #[] #[.pointer (some ⟨a2c0b, 0, none⟩)]), (8, .int .i64 ((a0.length : Nat) : Int)), (9, .int .i64 v9_1), (10, .int .i64 v10_1), (11, .int .i64 (IntKind.i64.wrap (Int.fdiv (IntKind.u64.wrap (v9_1 + v10_1)) (2 ^ 1))))]) [(2, { sp := some (.int .i64 (v9_1 + v10_1)) })] [0, 1, 2, 8, 9, 10, 11] [1, 2] (fun _ => [((.int .i64 (IntKind.i64.wrap (v9_1 + v10_1))) : Value) = .int .i64 (v9_1 + v10_1)]) (fun _ => by kernel_rfl) (fun _ => ⟨I64.w g44, trivial⟩) ?_
      intro _
      refine GS.seq ?_
      refine grd_elim hm (fun g46 hm => ?_)
      refine bnd_elim hm (fun y47 e48 hm => ?_)
      refine GS.rgM (fun _ => [(0, .slice a0_o a0.length a0_c), (1, .int .i64 a1), (2, .func (.func 48) #[] #[.pointer (some ⟨a2c0b, 0, none⟩)]), (8, .int .i64 ((a0.length : Nat) : Int)), (9, .int .i64 v9_1), (10, .int .i64 v10_1), (11, .int .i64 (IntKind.i64.wrap (Int.fdiv (IntKind.u64.wrap (v9_1 + v10_1)) (2 ^ 1)))), (31, .bool (decide (y47 < 0)))]) [(3, { act := .idx 1 (Int.toNat (IntKind.i64.wrap (Int.fdiv (IntKind.u64.wrap (v9_1 + v10_1)) (2 ^ 1)))) }), (4, { act := .load 1 (Int.toNat (IntKind.i64.wrap (Int.fdiv (IntKind.u64.wrap (v9_1 + v10_1)) (2 ^ 1)))) 0 [.int .i64 ((a0.getD (Int.toNat (IntKind.i64.wrap (Int.fdiv (IntKind.u64.wrap (v9_1 + v10_1)) (2 ^ 1)))) dS_api_Last).Client), .int .i64 ((a0.getD (Int.toNat (IntKind.i64.wrap (Int.fdiv (IntKind.u64.wrap (v9_1 + v10_1)) (2 ^ 1)))) dS_api_Last).Number), .int .i64 ((a0.getD (Int.toNat (IntKind.i64.wrap (Int.fdiv (IntKind.u64.wrap (v9_1 + v10_1)) (2 ^ 1)))) dS_api_Last).Errno), .int .i64 (((a0.getD (Int.toNat (IntKind.i64.wrap (Int.fdiv (IntKind.u64.wrap (v9_1 + v10_1)) (2 ^ 1)))) dS_api_Last).Version).Epoch), .int .i64 (((a0.getD (Int.toNat (IntKind.i64.wrap (Int.fdiv (IntKind.u64.wrap (v9_1 + v10_1)) (2 ^ 1)))) dS_api_Last).Version).N)] }), (6, { act := .call [2] (.int .i64 y47) })] [0, 1, 2, 8, 9, 10, 11, 31] [1, 2] (fun _ => [a0_o = a0_o, a0.length = (List.map S_api_Last.row a0).length, ((IntKind.i64.wrap (Int.fdiv (IntKind.u64.wrap (v9_1 + v10_1)) (2 ^ 1))) : Int) = (((Int.toNat (IntKind.i64.wrap (Int.fdiv (IntKind.u64.wrap (v9_1 + v10_1)) (2 ^ 1)))) : Nat) : Int), (Int.toNat (IntKind.i64.wrap (Int.fdiv (IntKind.u64.wrap (v9_1 + v10_1)) (2 ^ 1)))) < a0.length, blk a0_o = blk a0_o, offs a0_o + (Int.toNat (IntKind.i64.wrap (Int.fdiv (IntKind.u64.wrap (v9_1 + v10_1)) (2 ^ 1)))) * 5 = offs a0_o + ((Int.toNat (IntKind.i64.wrap (Int.fdiv (IntKind.u64.wrap (v9_1 + v10_1)) (2 ^ 1)))) * 5 + 0), (List.map S_api_Last.row a0)[(Int.toNat (IntKind.i64.wrap (Int.fdiv (IntKind.u64.wrap (v9_1 + v10_1)) (2 ^ 1))))]? = some [.int .i64 ((a0.getD (Int.toNat (IntKind.i64.wrap (Int.fdiv (IntKind.u64.wrap (v9_1 + v10_1)) (2 ^ 1)))) dS_api_Last).Client), .int .i64 ((a0.getD (Int.toNat (IntKind.i64.wrap (Int.fdiv (IntKind.u64.wrap (v9_1 + v10_1)) (2 ^ 1)))) dS_api_Last).Number), .int .i64 ((a0.getD (Int.toNat (IntKind.i64.wrap (Int.fdiv (IntKind.u64.wrap (v9_1 + v10_1)) (2 ^ 1)))) dS_api_Last).Errno), .int .i64 (((a0.getD (Int.toNat (IntKind.i64.wrap (Int.fdiv (IntKind.u64.wrap (v9_1 + v10_1)) (2 ^ 1)))) dS_api_Last).Version).Epoch), .int .i64 (((a0.getD (Int.toNat (IntKind.i64.wrap (Int.fdiv (IntKind.u64.wrap (v9_1 + v10_1)) (2 ^ 1)))) dS_api_Last).Version).N)], CallOK Try.prog 48 #[.agg ((kc10 ((a0.getD (Int.toNat (IntKind.i64.wrap (Int.fdiv (IntKind.u64.wrap (v9_1 + v10_1)) (2 ^ 1)))) dS_api_Last).Client) ((a0.getD (Int.toNat (IntKind.i64.wrap (Int.fdiv (IntKind.u64.wrap (v9_1 + v10_1)) (2 ^ 1)))) dS_api_Last).Number) ((a0.getD (Int.toNat (IntKind.i64.wrap (Int.fdiv (IntKind.u64.wrap (v9_1 + v10_1)) (2 ^ 1)))) dS_api_Last).Errno) (((a0.getD (Int.toNat (IntKind.i64.wrap (Int.fdiv (IntKind.u64.wrap (v9_1 + v10_1)) (2 ^ 1)))) dS_api_Last).Version).Epoch) (((a0.getD (Int.toNat (IntKind.i64.wrap (Int.fdiv (IntKind.u64.wrap (v9_1 + v10_1)) (2 ^ 1)))) dS_api_Last).Version).N))).toArray, .int .i64 a1, .pointer (some ⟨a2c0b, 0, none⟩)] (.int .i64 y47) [some (.rd (some ⟨a2c0b, 0, none⟩) 1 [[.func (.func 37) #[] #[]]])]]) (fun _ => by kernel_rfl) (fun _ => ⟨rfl, mlen S_api_Last.row a0, g46.eq, g46.2, rfl, rfl, map_at S_api_Last.row dS_api_Last g46.2, (by have h1 := w_pglog_look_api_Last_int__1 F (a0.getD (Int.toNat (IntKind.i64.wrap (Int.fdiv (IntKind.u64.wrap (v9_1 + v10_1)) (2 ^ 1)))) dS_api_Last) a1 a2c0b e48; exact h1.ok ⟨(.inl ⟨.rd (some ⟨a2c0b, 0, none⟩) 1 [[.func (.func 37) #[] #[]]], .head _, Cov.refl _⟩), trivial⟩), trivial⟩) ?_
      intro _
      refine GS.cond (t := decide (y47 < 0)) rfl rfl (fun h49 => ?_) (fun h49 => ?_)
      · replace hm := br_t h49 hm
        refine grd_elim hm (fun g51 hm => ?_)
        refine GS.rgM (fun _ => [(0, .slice a0_o a0.length a0_c), (1, .int .i64 a1), (2, .func (.func 48) #[] #[.pointer (some ⟨a2c0b, 0, none⟩)]), (8, .int .i64 ((a0.length : Nat) : Int)), (9, .int .i64 ((IntKind.i64.wrap (Int.fdiv (IntKind.u64.wrap (v9_1 + v10_1)) (2 ^ 1))) + 1)), (10, .int .i64 v10_1)]) [(1, { sp := some (.int .i64 ((IntKind.i64.wrap (Int.fdiv (IntKind.u64.wrap (v9_1 + v10_1)) (2 ^ 1))) + 1)) })] [0, 1, 2, 8, 9, 10] [1, 2] (fun _ => [((.int .i64 (IntKind.i64.wrap ((IntKind.i64.wrap (Int.fdiv (IntKind.u64.wrap (v9_1 + v10_1)) (2 ^ 1))) + 1))) : Value) = .int .i64 ((IntKind.i64.wrap (Int.fdiv (IntKind.u64.wrap (v9_1 + v10_1)) (2 ^ 1))) + 1)]) (fun _ => by kernel_rfl) (fun _ => ⟨I64.w g51, trivial⟩) ?_
        intro _
        refine GS.inBlock ?_
        refine GS.inLoop ?_
        refine GS.rekey (env' := [(0, .slice a0_o a0.length a0_c), (1, .int .i64 a1), (2, .func (.func 48) #[] #[.pointer (some ⟨a2c0b, 0, none⟩)]), (8, .int .i64 ((a0.length : Nat) : Int)), (9, .int .i64 ((IntKind.i64.wrap (Int.fdiv (IntKind.u64.wrap (v9_1 + v10_1)) (2 ^ 1))) + 1)), (10, .int .i64 v10_1)]) (mem' := [(1, r47 a0_o a0), (2, .rd (some ⟨a2c0b, 0, none⟩) 1 [[.func (.func 37) #[] #[]]])]) [0, 1, 2, 8, 9, 10] [(1, 1), (2, 2)] (by kernel_rfl) (by kernel_rfl) rfl ?_
        exact ih61 ⟨rs60, ((IntKind.i64.wrap (Int.fdiv (IntKind.u64.wrap (v9_1 + v10_1)) (2 ^ 1))) + 1), v10_1⟩ hm (Nat.lt_succ_self _)
      · replace hm := br_f h49 hm
        refine GS.rzM (fun _ => [(0, .slice a0_o a0.length a0_c), (1, .int .i64 a1), (2, .func (.func 48) #[] #[.pointer (some ⟨a2c0b, 0, none⟩)]), (8, .int .i64 ((a0.length : Nat) : Int)), (9, .int .i64 v9_1), (10, .int .i64 (IntKind.i64.wrap (Int.fdiv (IntKind.u64.wrap (v9_1 + v10_1)) (2 ^ 1))))]) [] [0, 1, 2, 8, 9, 10] [1, 2] (fun _ => by kernel_rfl) ?_
        intro _
        refine GS.inBlock ?_
        refine GS.inLoop ?_
        refine GS.rekey (env' := [(0, .slice a0_o a0.length a0_c), (1, .int .i64 a1), (2, .func (.func 48) #[] #[.pointer (some ⟨a2c0b, 0, none⟩)]), (8, .int .i64 ((a0.length : Nat) : Int)), (9, .int .i64 v9_1), (10, .int .i64 (IntKind.i64.wrap (Int.fdiv (IntKind.u64.wrap (v9_1 + v10_1)) (2 ^ 1))))]) (mem' := [(1, r47 a0_o a0), (2, .rd (some ⟨a2c0b, 0, none⟩) 1 [[.func (.func 37) #[] #[]]])]) [0, 1, 2, 8, 9, 10] [(1, 1), (2, 2)] (by kernel_rfl) (by kernel_rfl) rfl ?_
        exact ih61 ⟨rs60, v9_1, (IntKind.i64.wrap (Int.fdiv (IntKind.u64.wrap (v9_1 + v10_1)) (2 ^ 1)))⟩ hm (Nat.lt_succ_self _)
    · replace hm := br_f h42 hm
      refine GS.exit rfl ?_
      refine GS.seq ?_
      refine br_elim hm (fun h67 hm => ?_) (fun h67 hm => ?_)
      · skip
        refine grd_elim hm (fun g68 hm => ?_)
        refine bnd_elim hm (fun y69 e70 hm => ?_)
        refine GS.rg (fun _ => [(6, .int .i64 v9_1), (7, .bool (y69 == 0))]) (fun _ => []) [(4, { sp := some (.bool true) }), (8, { act := .idx 1 (Int.toNat v9_1) }), (9, { act := .load 1 (Int.toNat v9_1) 0 [.int .i64 ((a0.getD (Int.toNat v9_1) dS_api_Last).Client), .int .i64 ((a0.getD (Int.toNat v9_1) dS_api_Last).Number), .int .i64 ((a0.getD (Int.toNat v9_1) dS_api_Last).Errno), .int .i64 (((a0.getD (Int.toNat v9_1) dS_api_Last).Version).Epoch), .int .i64 (((a0.getD (Int.toNat v9_1) dS_api_Last).Version).N)] }), (11, { act := .call [2] (.int .i64 y69) })] [6, 7] [] (fun _ => [((.bool (decide (v9_1 < ((a0.length : Nat) : Int)))) : Value) = .bool true, a0_o = a0_o, a0.length = (List.map S_api_Last.row a0).length, (v9_1 : Int) = (((Int.toNat v9_1) : Nat) : Int), (Int.toNat v9_1) < a0.length, blk a0_o = blk a0_o, offs a0_o + (Int.toNat v9_1) * 5 = offs a0_o + ((Int.toNat v9_1) * 5 + 0), (List.map S_api_Last.row a0)[(Int.toNat v9_1)]? = some [.int .i64 ((a0.getD (Int.toNat v9_1) dS_api_Last).Client), .int .i64 ((a0.getD (Int.toNat v9_1) dS_api_Last).Number), .int .i64 ((a0.getD (Int.toNat v9_1) dS_api_Last).Errno), .int .i64 (((a0.getD (Int.toNat v9_1) dS_api_Last).Version).Epoch), .int .i64 (((a0.getD (Int.toNat v9_1) dS_api_Last).Version).N)], CallOK Try.prog 48 #[.agg ((kc10 ((a0.getD (Int.toNat v9_1) dS_api_Last).Client) ((a0.getD (Int.toNat v9_1) dS_api_Last).Number) ((a0.getD (Int.toNat v9_1) dS_api_Last).Errno) (((a0.getD (Int.toNat v9_1) dS_api_Last).Version).Epoch) (((a0.getD (Int.toNat v9_1) dS_api_Last).Version).N))).toArray, .int .i64 a1, .pointer (some ⟨a2c0b, 0, none⟩)] (.int .i64 y69) [some (.rd (some ⟨a2c0b, 0, none⟩) 1 [[.func (.func 37) #[] #[]]])]]) (fun _ => by kernel_rfl) (fun _ => ⟨bool_eq h67, rfl, mlen S_api_Last.row a0, g68.eq, g68.2, rfl, rfl, map_at S_api_Last.row dS_api_Last g68.2, (by have h1 := w_pglog_look_api_Last_int__1 F (a0.getD (Int.toNat v9_1) dS_api_Last) a1 a2c0b e70; exact h1.ok ⟨(.inl ⟨.rd (some ⟨a2c0b, 0, none⟩) 1 [[.func (.func 37) #[] #[]]], .head _, Cov.refl _⟩), trivial⟩), trivial⟩) ?_
        intro _
        have hy := Option.some.inj hm
        subst hy
        refine GS.ret (fn := Try.f47) [0, 0] [.int .i64 v9_1, .bool (y69 == 0)] [] rfl Try.func47 (by kernel_rfl) trivial (fun w' hs => ?_)
        exact ⟨(), rfl, hs.turnedG (ks := []) rfl rfl⟩
      · skip
        refine GS.rg (fun _ => [(6, .int .i64 v9_1), (7, .bool false)]) (fun _ => []) [(4, { sp := some (.bool false) })] [6, 7] [] (fun _ => [((.bool (decide (v9_1 < ((a0.length : Nat) : Int)))) : Value) = .bool false]) (fun _ => by kernel_rfl) (fun _ => ⟨bool_eq h67, trivial⟩) ?_
        intro _
        have hy := Option.some.inj hm
        subst hy
        refine GS.ret (fn := Try.f47) [0, 0] [.int .i64 v9_1, .bool false] [] rfl Try.func47 (by kernel_rfl) trivial (fun w' hs => ?_)
        exact ⟨(), rfl, hs.turnedG (ks := []) rfl rfl⟩

theorem w_pglog_look_api_Last_int_ (F : Nat) (a0_o : Option Addr) (a0_c : Nat) (a0 : List S_api_Last) (a2 : Int) {y : Int × Bool} (hm : m_pglog_look_api_Last_int_ F a0 a2 = some y) : CallG Try.prog 41 #[.slice a0_o a0.length a0_c, .func (.func 37) #[] #[], .int .i64 a2] (X := Unit) (fun (_ : Unit) => .tuple #[.int .i64 y.1, .bool y.2]) [] [r47 a0_o a0] (fun (_ : Unit) => []) := by
  intro w hg
  rw [m_pglog_look_api_Last_int_] at hm
  refine GS.start (S := mayT [] [r47 a0_o a0]) (mem := [(1, r47 a0_o a0)]) Try.func41 rfl Try.ntmps41 (Nat.le_of_ble_eq_true rfl) (hg.start rfl) ?_
  refine GS.conv (env' := [(0, .slice a0_o a0.length a0_c), (1, .func (.func 37) #[] #[]), (2, .int .i64 a2)]) rfl rfl ?_
  refine GS.seq ?_
  refine GS.rz (fun fr1 => [(0, .slice a0_o a0.length a0_c), (2, .int .i64 a2), (4, .pointer (some ⟨(fr1 0).x, 0, none⟩))]) (fun fr1 => [(1, r47 a0_o a0), (2, .cells ((fr1 0).x) 77 [.func (.func 37) #[] #[]])]) [(0, { act := .new .var, key := some 2 })] [0, 2, 4] [1, 2] (fun fr1 => by kernel_rfl) ?_
  intro fr1
  refine GS.seq ?_
  refine bnd_elim hm (fun y3 e4 hm => ?_)
  refine GS.rg (fun _ => [(6, .int .i64 y3.1), (7, .bool y3.2)]) (fun _ => []) [(3, { act := .call [1, 2] (.tuple #[.int .i64 y3.1, .bool y3.2]) })] [6, 7] [] (fun _ => [CallOK Try.prog 47 #[.slice a0_o a0.length a0_c, .int .i64 a2, .func (.func 48) #[] #[.pointer (some ⟨(fr1 0).x, 0, none⟩)]] (.tuple #[.int .i64 y3.1, .bool y3.2]) [some (r47 a0_o a0), some (.cells ((fr1 0).x) 77 [.func (.func 37) #[] #[]])]]) (fun _ => by kernel_rfl) (fun _ => ⟨(by have h1 := w_slices_BinarySearchFunc___api_Last_api_Last_int_ F a0_o a0_c a0 a2 (fr1 0).x e4; exact h1.ok ⟨(.inl ⟨r47 a0_o a0, .head _, Cov.refl _⟩), (.inl ⟨.cells ((fr1 0).x) 77 [.func (.func 37) #[] #[]], (.tail _ (.head _)), Cov.cells_rd⟩), trivial⟩), trivial⟩) ?_
  intro _
  have hy := Option.some.inj hm
  subst hy
  refine GS.ret (fn := Try.f41) [0, 0] [.int .i64 y3.1, .bool y3.2] [] rfl Try.func41 (by kernel_rfl) trivial (fun w' hs => ?_)
  exact ⟨(), rfl, hs.turnedG (ks := []) rfl rfl⟩

theorem w_pglog_itemName (F : Nat) (a0 : S_api_Item) {y : ByteArray} (hm : m_pglog_itemName F a0 = some y) : CallG Try.prog 35 #[.agg ((kc6 a0.Name a0.Version.Epoch a0.Version.N a0.Crc)).toArray] (X := Unit) (fun (_ : Unit) => .string y) [] [] (fun (_ : Unit) => []) := by
  intro w hg
  rw [m_pglog_itemName] at hm
  refine GS.start (S := mayT [] []) (mem := []) Try.func35 rfl Try.ntmps35 (Nat.le_of_ble_eq_true rfl) (hg.start rfl) ?_
  refine GS.conv (env' := [(0, .agg ((kc6 a0.Name a0.Version.Epoch a0.Version.N a0.Crc)).toArray)]) rfl rfl ?_
  refine GS.seq ?_
  refine GS.rz (fun fr1 => [(1, .pointer (some ⟨(fr1 0).x, 0, none⟩))]) (fun fr1 => [(1, .cells ((fr1 0).x) 42 (kc6 a0.Name a0.Version.Epoch a0.Version.N a0.Crc))]) [(0, { act := .new .var, key := some 1 })] [1] [1] (fun fr1 => by kernel_rfl) ?_
  intro fr1
  refine GS.seq ?_
  refine GS.rg (fun _ => [(2, .string a0.Name)]) (fun _ => []) [(1, { act := .load 1 0 0 [] })] [2] [] (fun _ => [(fr1 0).x = (fr1 0).x]) (fun _ => by kernel_rfl) (fun _ => ⟨rfl, trivial⟩) ?_
  intro _
  have hy := Option.some.inj hm
  subst hy
  refine GS.ret (fn := Try.f35) [0] [.string a0.Name] [] rfl Try.func35 (by kernel_rfl) trivial (fun w' hs => ?_)
  exact ⟨(), rfl, hs.turnedG (ks := []) rfl rfl⟩

theorem w_cmp_isNaN_string_ (F : Nat) (a0 : ByteArray) {y : Bool} (hm : m_cmp_isNaN_string_ F a0 = some y) : CallG Try.prog 57 #[.string a0] (X := Unit) (fun (_ : Unit) => .bool y) [] [] (fun (_ : Unit) => []) := by
  intro w hg
  rw [m_cmp_isNaN_string_] at hm
  refine GS.start (S := mayT [] []) (mem := []) Try.func57 rfl Try.ntmps57 (Nat.le_of_ble_eq_true rfl) (hg.start rfl) ?_
  refine GS.conv (env' := [(0, .string a0)]) rfl rfl ?_
  refine GS.seq ?_
  refine GS.rzM (fun _ => [(0, .string a0)]) [] [0] [] (fun _ => by kernel_rfl) ?_
  intro _
  refine GS.seq ?_
  refine GS.rzM (fun _ => [(2, .bool (!(a0.toList == a0.toList)))]) [] [2] [] (fun _ => by kernel_rfl) ?_
  intro _
  have hy := Option.some.inj hm
  subst hy
  refine GS.ret (fn := Try.f57) [0] [.bool (!(a0.toList == a0.toList))] [] rfl Try.func57 (by kernel_rfl) trivial (fun w' hs => ?_)
  exact ⟨(), rfl, hs.turnedG (ks := []) rfl rfl⟩

theorem w_cmp_Compare_string_ (F : Nat) (a0 : ByteArray) (a1 : ByteArray) {y : Int} (hm : m_cmp_Compare_string_ F a0 a1 = some y) : CallG Try.prog 53 #[.string a0, .string a1] (X := Unit) (fun (_ : Unit) => .int .i64 y) [] [] (fun (_ : Unit) => []) := by
  intro w hg
  rw [m_cmp_Compare_string_] at hm
  refine GS.start (S := mayT [] []) (mem := []) Try.func53 rfl Try.ntmps53 (Nat.le_of_ble_eq_true rfl) (hg.start rfl) ?_
  refine GS.conv (env' := [(0, .string a0), (1, .string a1)]) rfl rfl ?_
  refine GS.seq ?_
  refine GS.rzM (fun _ => [(0, .string a0), (1, .string a1)]) [] [0, 1] [] (fun _ => by kernel_rfl) ?_
  intro _
  refine GS.seq ?_
  refine bnd_elim hm (fun y3 e4 hm => ?_)
  refine GS.rgM (fun _ => [(0, .string a0), (1, .string a1), (5, .bool y3)]) [(1, { act := .call [] (.bool y3) })] [0, 1, 5] [] (fun _ => [CallOK Try.prog 57 #[.string a0] (.bool y3) []]) (fun _ => by kernel_rfl) (fun _ => ⟨(by have h1 := w_cmp_isNaN_string_ F a0 e4; exact h1.ok trivial), trivial⟩) ?_
  intro _
  refine GS.seq ?_
  refine bnd_elim hm (fun y6 e7 hm => ?_)
  refine GS.rgM (fun _ => [(0, .string a0), (1, .string a1), (5, .bool y3), (6, .bool y6)]) [(1, { act := .call [] (.bool y6) })] [0, 1, 5, 6] [] (fun _ => [CallOK Try.prog 57 #[.string a1] (.bool y6) []]) (fun _ => by kernel_rfl) (fun _ => ⟨(by have h1 := w_cmp_isNaN_string_ F a1 e7; exact h1.ok trivial), trivial⟩) ?_
  intro _
  refine GS.seq ?_
  refine GS.seq ?_
  refine GS.rzM (fun _ => [(0, .string a0), (1, .string a1), (6, .bool y6), (11, .bool y3)]) [] [0, 1, 6, 11] [] (fun _ => by kernel_rfl) ?_
  intro _
  refine GS.cond (t := y3) rfl rfl (fun h9 => ?_) (fun h9 => ?_)
  · replace hm := br_t h9 hm
    refine GS.seq ?_
    refine GS.seq ?_
    refine GS.rzM (fun _ => [(12, .bool y6)]) [] [12] [] (fun _ => by kernel_rfl) ?_
    intro _
    refine GS.cond (t := y6) rfl rfl (fun h11 => ?_) (fun h11 => ?_)
    · replace hm := br_t h11 hm
      refine GS.seq ?_
      refine GS.rzM (fun _ => [(4, .int .i64 0)]) [] [4] [] (fun _ => by kernel_rfl) ?_
      intro _
      have hy := Option.some.inj hm
      subst hy
      refine GS.ret (fn := Try.f53) [0] [.int .i64 0] [] rfl Try.func53 (by kernel_rfl) trivial (fun w' hs => ?_)
      exact ⟨(), rfl, hs.turnedG (ks := []) rfl rfl⟩
    · replace hm := br_f h11 hm
      refine GS.skip ?_
      refine GS.seq ?_
      refine GS.rzM (fun _ => [(4, .int .i64 (-1))]) [] [4] [] (fun _ => by kernel_rfl) ?_
      intro _
      have hy := Option.some.inj hm
      subst hy
      refine GS.ret (fn := Try.f53) [0] [.int .i64 (-1)] [] rfl Try.func53 (by kernel_rfl) trivial (fun w' hs => ?_)
      exact ⟨(), rfl, hs.turnedG (ks := []) rfl rfl⟩
  · replace hm := br_f h9 hm
    refine GS.skip ?_
    refine GS.seq ?_
    refine GS.seq ?_
    refine GS.rzM (fun _ => [(0, .string a0), (1, .string a1), (13, .bool y6)]) [] [0, 1, 13] [] (fun _ => by kernel_rfl) ?_
    intro _
    refine GS.cond (t := y6) rfl rfl (fun h15 => ?_) (fun h15 => ?_)
    · replace hm := br_t h15 hm
      refine GS.seq ?_
      refine GS.rzM (fun _ => [(4, .int .i64 1)]) [] [4] [] (fun _ => by kernel_rfl) ?_
      intro _
      have hy := Option.some.inj hm
      subst hy
      refine GS.ret (fn := Try.f53) [0] [.int .i64 1] [] rfl Try.func53 (by kernel_rfl) trivial (fun w' hs => ?_)
      exact ⟨(), rfl, hs.turnedG (ks := []) rfl rfl⟩
    · replace hm := br_f h15 hm
      refine GS.skip ?_
      refine GS.seq ?_
      refine GS.seq ?_
      refine GS.rzM (fun _ => [(0, .string a0), (1, .string a1), (16, .bool (Op.bytesLess a0.toList a1.toList))]) [] [0, 1, 16] [] (fun _ => by kernel_rfl) ?_
      intro _
      refine GS.cond (t := Op.bytesLess a0.toList a1.toList) rfl rfl (fun h18 => ?_) (fun h18 => ?_)
      · replace hm := br_t h18 hm
        refine GS.seq ?_
        refine GS.rzM (fun _ => [(4, .int .i64 (-1))]) [] [4] [] (fun _ => by kernel_rfl) ?_
        intro _
        have hy := Option.some.inj hm
        subst hy
        refine GS.ret (fn := Try.f53) [0] [.int .i64 (-1)] [] rfl Try.func53 (by kernel_rfl) trivial (fun w' hs => ?_)
        exact ⟨(), rfl, hs.turnedG (ks := []) rfl rfl⟩
      · replace hm := br_f h18 hm
        refine GS.skip ?_
        refine GS.seq ?_
        refine GS.seq ?_
        refine GS.rzM (fun _ => [(19, .bool (!(Op.bytesLess a0.toList a1.toList || a0.toList == a1.toList)))]) [] [19] [] (fun _ => by kernel_rfl) ?_
        intro _
        refine GS.cond (t := !(Op.bytesLess a0.toList a1.toList || a0.toList == a1.toList)) rfl rfl (fun h21 => ?_) (fun h21 => ?_)
        · replace hm := br_t h21 hm
          refine GS.seq ?_
          refine GS.rzM (fun _ => [(4, .int .i64 1)]) [] [4] [] (fun _ => by kernel_rfl) ?_
          intro _
          have hy := Option.some.inj hm
          subst hy
          refine GS.ret (fn := Try.f53) [0] [.int .i64 1] [] rfl Try.func53 (by kernel_rfl) trivial (fun w' hs => ?_)
          exact ⟨(), rfl, hs.turnedG (ks := []) rfl rfl⟩
        · replace hm := br_f h21 hm
          refine GS.skip ?_
          refine GS.seq ?_
          refine GS.rzM (fun _ => [(4, .int .i64 0)]) [] [4] [] (fun _ => by kernel_rfl) ?_
          intro _
          have hy := Option.some.inj hm
          subst hy
          refine GS.ret (fn := Try.f53) [0] [.int .i64 0] [] rfl Try.func53 (by kernel_rfl) trivial (fun w' hs => ?_)
          exact ⟨(), rfl, hs.turnedG (ks := []) rfl rfl⟩

theorem w_pglog_look_api_Item_string__1 (F : Nat) (a0 : S_api_Item) (a1 : ByteArray) (a2b : Nat) {y : Int} (hm : m_pglog_look_api_Item_string__1 F a0 a1 = some y) : CallG Try.prog 52 #[.agg ((kc6 a0.Name a0.Version.Epoch a0.Version.N a0.Crc)).toArray, .string a1, .pointer (some ⟨a2b, 0, none⟩)] (X := Unit) (fun (_ : Unit) => .int .i64 y) [] [.rd (some ⟨a2b, 0, none⟩) 1 [[.func (.func 35) #[] #[]]]] (fun (_ : Unit) => []) := by
  intro w hg
  rw [m_pglog_look_api_Item_string__1] at hm
  refine GS.start (S := mayT [] [.rd (some ⟨a2b, 0, none⟩) 1 [[.func (.func 35) #[] #[]]]]) (mem := [(1, .rd (some ⟨a2b, 0, none⟩) 1 [[.func (.func 35) #[] #[]]])]) Try.func52 rfl Try.ntmps52 (Nat.le_of_ble_eq_true rfl) (hg.start rfl) ?_
  refine GS.conv (env' := [(0, .agg ((kc6 a0.Name a0.Version.Epoch a0.Version.N a0.Crc)).toArray), (1, .string a1), (2, .pointer (some ⟨a2b, 0, none⟩))]) rfl rfl ?_
  refine GS.seq ?_
  refine GS.rz (fun fr1 => [(1, .string a1), (2, .pointer (some ⟨a2b, 0, none⟩)), (3, .pointer (some ⟨(fr1 0).x, 0, none⟩))]) (fun fr1 => [(1, .rd (some ⟨a2b, 0, none⟩) 1 [[.func (.func 35) #[] #[]]]), (2, .cells ((fr1 0).x) 42 (kc6 a0.Name a0.Version.Epoch a0.Version.N a0.Crc))]) [(0, { act := .new .var, key := some 2 })] [1, 2, 3] [1, 2] (fun fr1 => by kernel_rfl) ?_
  intro fr1
  refine GS.seq ?_
  refine bnd_elim hm (fun y3 e4 hm => ?_)
  refine bnd_elim hm (fun y5 e6 hm => ?_)
  refine GS.rg (fun _ => [(5, .int .i64 y5)]) (fun _ => []) [(0, { act := .load 1 0 0 [.func (.func 35) #[] #[]] }), (1, { act := .load 2 0 0 [] }), (2, { act := .call [] (.string y3) }), (4, { act := .call [] (.int .i64 y5) })] [5] [] (fun _ => [a2b = blk (some ⟨a2b, 0, none⟩), 0 = offs (some ⟨a2b, 0, none⟩) + (0 * 1 + 0), ([[.func (.func 35) #[] #[]]] : List (List Value))[0]? = some [.func (.func 35) #[] #[]], (fr1 0).x = (fr1 0).x, CallOK Try.prog 35 #[.agg ((kc6 a0.Name a0.Version.Epoch a0.Version.N a0.Crc)).toArray] (.string y3) [], CallOK Try.prog 53 #[.string y3, .string a1] (.int .i64 y5) []]) (fun _ => by kernel_rfl) (fun _ => ⟨rfl, rfl, rfl, rfl, (by have h1 := w_pglog_itemName F a0 e4; exact h1.ok trivial), (by have h1 := w_cmp_Compare_string_ F y3 a1 e6; exact h1.ok trivial), trivial⟩) ?_
  intro _
  have hy := Option.some.inj hm
  subst hy
  refine GS.ret (fn := Try.f52) [0] [.int .i64 y5] [] rfl Try.func52 (by kernel_rfl) trivial (fun w' hs => ?_)
  exact ⟨(), rfl, hs.turnedG (ks := []) rfl rfl⟩

theorem w_slices_BinarySearchFunc___api_Item_api_Item_string_ (F : Nat) (a0_o : Option Addr) (a0_c : Nat) (a0 : List S_api_Item) (a1 : ByteArray) (a2c0b : Nat) {y : Int × Bool} (hm : m_slices_BinarySearchFunc___api_Item_api_Item_string_ F a0 a1 = some y) : CallG Try.prog 51 #[.slice a0_o a0.length a0_c, .string a1, .func (.func 52) #[] #[.pointer (some ⟨a2c0b, 0, none⟩)]] (X := Unit) (fun (_ : Unit) => .tuple #[.int .i64 y.1, .bool y.2]) [] [r42 a0_o a0, .rd (some ⟨a2c0b, 0, none⟩) 1 [[.func (.func 35) #[] #[]]]] (fun (_ : Unit) => []) := by
  intro w hg
  rw [m_slices_BinarySearchFunc___api_Item_api_Item_string_] at hm
  refine GS.start (S := mayT [] [r42 a0_o a0, .rd (some ⟨a2c0b, 0, none⟩) 1 [[.func (.func 35) #[] #[]]]]) (mem := [(1, r42 a0_o a0), (2, .rd (some ⟨a2c0b, 0, none⟩) 1 [[.func (.func 35) #[] #[]]])]) Try.func51 rfl Try.ntmps51 (Nat.le_of_ble_eq_true rfl) (hg.start rfl) ?_
  refine GS.conv (env' := [(0, .slice a0_o a0.length a0_c), (1, .string a1), (2, .func (.func 52) #[] #[.pointer (some ⟨a2c0b, 0, none⟩)])]) rfl rfl ?_
  refine GS.seq ?_
  refine GS.rzM (fun _ => [(0, .slice a0_o a0.length a0_c), (1, .string a1), (2, .func (.func 52) #[] #[.pointer (some ⟨a2c0b, 0, none⟩)])]) [] [0, 1, 2] [1, 2] (fun _ => by kernel_rfl) ?_
  intro _
  refine GS.seq ?_
  refine GS.rzM (fun _ => [(0, .slice a0_o a0.length a0_c), (1, .string a1), (2, .func (.func 52) #[] #[.pointer (some ⟨a2c0b, 0, none⟩)]), (8, .int .i64 ((a0.length : Nat) : Int))]) [] [0, 1, 2, 8] [1, 2] (fun _ => by kernel_rfl) ?_
  intro _
  refine GS.seq ?_
  refine GS.rzM (fun _ => [(0, .slice a0_o a0.length a0_c), (1, .string a1), (2, .func (.func 52) #[] #[.pointer (some ⟨a2c0b, 0, none⟩)]), (8, .int .i64 ((a0.length : Nat) : Int)), (9, .int .i64 0), (10, .int .i64 ((a0.length : Nat) : Int))]) [] [0, 1, 2, 8, 9, 10] [1, 2] (fun _ => by kernel_rfl) ?_
  intro _
  refine GS.seq ?_
  refine GS.block ?_
  refine GS.loop ?_
  refine GS.rekey (env' := [(0, .slice a0_o a0.length a0_c), (1, .string a1), (2, .func (.func 52) #[] #[.pointer (some ⟨a2c0b, 0, none⟩)]), (8, .int .i64 ((a0.length : Nat) : Int)), (9, .int .i64 0), (10, .int .i64 ((a0.length : Nat) : Int))]) (mem' := [(1, r42 a0_o a0), (2, .rd (some ⟨a2c0b, 0, none⟩) 1 [[.func (.func 35) #[] #[]]])]) [0, 1, 2, 8, 9, 10] [(1, 1), (2, 2)] (by kernel_rfl) (by kernel_rfl) rfl ?_
  refine loopW_elim hm (fun st62 hst64 hm => ?_)
  refine GS.loopInv (ι := Nat × Int × Int) (I := fun ⟨rs60, v9_1, v10_1⟩ => loopW st62 rs60 (v9_1, v10_1) = some y) (μ := fun ⟨rs60, v9_1, v10_1⟩ => rs60) (E := fun ⟨rs60, v9_1, v10_1⟩ => [(0, .slice a0_o a0.length a0_c), (1, .string a1), (2, .func (.func 52) #[] #[.pointer (some ⟨a2c0b, 0, none⟩)]), (8, .int .i64 ((a0.length : Nat) : Int)), (9, .int .i64 v9_1), (10, .int .i64 v10_1)]) (M := fun ⟨rs60, v9_1, v10_1⟩ => [(1, r42 a0_o a0), (2, .rd (some ⟨a2c0b, 0, none⟩) 1 [[.func (.func 35) #[] #[]]])]) ?_ ⟨F, 0, ((a0.length : Nat) : Int)⟩ hm
  rintro ⟨rs60, v9_1, v10_1⟩ hm ih61
  cases rs60 with
  | zero => cases hm
  | succ rs60 =>
    replace hm := (hst64 _ _).symm.trans hm
    try dsimp only at hm
    refine GS.seq ?_
    refine GS.seq ?_
    refine GS.rzM (fun _ => [(0, .slice a0_o a0.length a0_c), (1, .string a1), (2, .func (.func 52) #[] #[.pointer (some ⟨a2c0b, 0, none⟩)]), (8, .int .i64 ((a0.length : Nat) : Int)), (9, .int .i64 v9_1), (10, .int .i64 v10_1), (17, .bool (decide (v9_1 < v10_1)))]) [] [0, 1, 2, 8, 9, 10, 17] [1, 2] (fun _ => by kernel_rfl) ?_
    intro _
    refine GS.cond (t := decide (v9_1 < v10_1)) rfl rfl (fun h42 => ?_) (fun h42 => ?_)
    · replace hm := br_t h42 hm
      refine GS.skip ?_
      refine GS.block ?_
      refine GS.seq ?_
      refine grd_elim hm (fun g44 hm => ?_)
      refine GS.rgM (fun _ => [(0, .slice a0_o a0.length a0_c), (1, .string a1), (2, .func (.func 52) #[] #[.pointer (some ⟨a2c0b, 0, none⟩)]), (8, .int .i64 ((a0.length : Nat) : Int)), (9, .int .i64 v9_1), (10, .int .i64 v10_1), (11, .int .i64 (IntKind.i64.wrap (Int.fdiv (IntKind.u64.wrap (v9_1 + v10_1)) (2 ^ 1))))]) [(2, { sp := some (.int .i64 (v9_1 + v10_1)) })] [0, 1, 2, 8, 9, 10, 11] [1, 2] (fun _ => [((.int .i64 (IntKind.i64.wrap (v9_1 + v10_1))) : Value) = .int .i64 (v9_1 + v10_1)]) (fun _ => by kernel_rfl) (fun _ => ⟨I64.w g44, trivial⟩) ?_
      intro _
      refine GS.seq ?_
      refine grd_elim hm (fun g46 hm => ?_)
      refine bnd_elim hm (fun y47 e48 hm => ?_)
      refine GS.rgM (fun _ => [(0, .slice a0_o a0.length a0_c), (1, .string a1), (2, .func (.func 52) #[] #[.pointer (some ⟨a2c0b, 0, none⟩)]), (8, .int .i64 ((a0.length : Nat) : Int)), (9, .int .i64 v9_1), (10, .int .i64 v10_1), (11, .int .i64 (IntKind.i64.wrap (Int.fdiv (IntKind.u64.wrap (v9_1 + v10_1)) (2 ^ 1)))), (31, .bool (decide (y47 < 0)))]) [(3, { act := .idx 1 (Int.toNat (IntKind.i64.wrap (Int.fdiv (IntKind.u64.wrap (v9_1 + v10_1)) (2 ^ 1)))) }), (4, { act := .load 1 (Int.toNat (IntKind.i64.wrap (Int.fdiv (IntKind.u64.wrap (v9_1 + v10_1)) (2 ^ 1)))) 0 [.string ((a0.getD (Int.toNat (IntKind.i64.wrap (Int.fdiv (IntKind.u64.wrap (v9_1 + v10_1)) (2 ^ 1)))) dS_api_Item).Name), .int .i64 (((a0.getD (Int.toNat (IntKind.i64.wrap (Int.fdiv (IntKind.u64.wrap (v9_1 + v10_1)) (2 ^ 1)))) dS_api_Item).Version).Epoch), .int .i64 (((a0.getD (Int.toNat (IntKind.i64.wrap (Int.fdiv (IntKind.u64.wrap (v9_1 + v10_1)) (2 ^ 1)))) dS_api_Item).Version).N), .int .u32 ((a0.getD (Int.toNat (IntKind.i64.wrap (Int.fdiv (IntKind.u64.wrap (v9_1 + v10_1)) (2 ^ 1)))) dS_api_Item).Crc)] }), (6, { act := .call [2] (.int .i64 y47) })] [0, 1, 2, 8, 9, 10, 11, 31] [1, 2] (fun _ => [a0_o = a0_o, a0.length = (List.map S_api_Item.row a0).length, ((IntKind.i64.wrap (Int.fdiv (IntKind.u64.wrap (v9_1 + v10_1)) (2 ^ 1))) : Int) = (((Int.toNat (IntKind.i64.wrap (Int.fdiv (IntKind.u64.wrap (v9_1 + v10_1)) (2 ^ 1)))) : Nat) : Int), (Int.toNat (IntKind.i64.wrap (Int.fdiv (IntKind.u64.wrap (v9_1 + v10_1)) (2 ^ 1)))) < a0.length, blk a0_o = blk a0_o, offs a0_o + (Int.toNat (IntKind.i64.wrap (Int.fdiv (IntKind.u64.wrap (v9_1 + v10_1)) (2 ^ 1)))) * 4 = offs a0_o + ((Int.toNat (IntKind.i64.wrap (Int.fdiv (IntKind.u64.wrap (v9_1 + v10_1)) (2 ^ 1)))) * 4 + 0), (List.map S_api_Item.row a0)[(Int.toNat (IntKind.i64.wrap (Int.fdiv (IntKind.u64.wrap (v9_1 + v10_1)) (2 ^ 1))))]? = some [.string ((a0.getD (Int.toNat (IntKind.i64.wrap (Int.fdiv (IntKind.u64.wrap (v9_1 + v10_1)) (2 ^ 1)))) dS_api_Item).Name), .int .i64 (((a0.getD (Int.toNat (IntKind.i64.wrap (Int.fdiv (IntKind.u64.wrap (v9_1 + v10_1)) (2 ^ 1)))) dS_api_Item).Version).Epoch), .int .i64 (((a0.getD (Int.toNat (IntKind.i64.wrap (Int.fdiv (IntKind.u64.wrap (v9_1 + v10_1)) (2 ^ 1)))) dS_api_Item).Version).N), .int .u32 ((a0.getD (Int.toNat (IntKind.i64.wrap (Int.fdiv (IntKind.u64.wrap (v9_1 + v10_1)) (2 ^ 1)))) dS_api_Item).Crc)], CallOK Try.prog 52 #[.agg ((kc6 ((a0.getD (Int.toNat (IntKind.i64.wrap (Int.fdiv (IntKind.u64.wrap (v9_1 + v10_1)) (2 ^ 1)))) dS_api_Item).Name) (((a0.getD (Int.toNat (IntKind.i64.wrap (Int.fdiv (IntKind.u64.wrap (v9_1 + v10_1)) (2 ^ 1)))) dS_api_Item).Version).Epoch) (((a0.getD (Int.toNat (IntKind.i64.wrap (Int.fdiv (IntKind.u64.wrap (v9_1 + v10_1)) (2 ^ 1)))) dS_api_Item).Version).N) ((a0.getD (Int.toNat (IntKind.i64.wrap (Int.fdiv (IntKind.u64.wrap (v9_1 + v10_1)) (2 ^ 1)))) dS_api_Item).Crc))).toArray, .string a1, .pointer (some ⟨a2c0b, 0, none⟩)] (.int .i64 y47) [some (.rd (some ⟨a2c0b, 0, none⟩) 1 [[.func (.func 35) #[] #[]]])]]) (fun _ => by kernel_rfl) (fun _ => ⟨rfl, mlen S_api_Item.row a0, g46.eq, g46.2, rfl, rfl, map_at S_api_Item.row dS_api_Item g46.2, (by have h1 := w_pglog_look_api_Item_string__1 F (a0.getD (Int.toNat (IntKind.i64.wrap (Int.fdiv (IntKind.u64.wrap (v9_1 + v10_1)) (2 ^ 1)))) dS_api_Item) a1 a2c0b e48; exact h1.ok ⟨(.inl ⟨.rd (some ⟨a2c0b, 0, none⟩) 1 [[.func (.func 35) #[] #[]]], .head _, Cov.refl _⟩), trivial⟩), trivial⟩) ?_
      intro _
      refine GS.cond (t := decide (y47 < 0)) rfl rfl (fun h49 => ?_) (fun h49 => ?_)
      · replace hm := br_t h49 hm
        refine grd_elim hm (fun g51 hm => ?_)
        refine GS.rgM (fun _ => [(0, .slice a0_o a0.length a0_c), (1, .string a1), (2, .func (.func 52) #[] #[.pointer (some ⟨a2c0b, 0, none⟩)]), (8, .int .i64 ((a0.length : Nat) : Int)), (9, .int .i64 ((IntKind.i64.wrap (Int.fdiv (IntKind.u64.wrap (v9_1 + v10_1)) (2 ^ 1))) + 1)), (10, .int .i64 v10_1)]) [(1, { sp := some (.int .i64 ((IntKind.i64.wrap (Int.fdiv (IntKind.u64.wrap (v9_1 + v10_1)) (2 ^ 1))) + 1)) })] [0, 1, 2, 8, 9, 10] [1, 2] (fun _ => [((.int .i64 (IntKind.i64.wrap ((IntKind.i64.wrap (Int.fdiv (IntKind.u64.wrap (v9_1 + v10_1)) (2 ^ 1))) + 1))) : Value) = .int .i64 ((IntKind.i64.wrap (Int.fdiv (IntKind.u64.wrap (v9_1 + v10_1)) (2 ^ 1))) + 1)]) (fun _ => by kernel_rfl) (fun _ => ⟨I64.w g51, trivial⟩) ?_
        intro _
        refine GS.inBlock ?_
        refine GS.inLoop ?_
        refine GS.rekey (env' := [(0, .slice a0_o a0.length a0_c), (1, .string a1), (2, .func (.func 52) #[] #[.pointer (some ⟨a2c0b, 0, none⟩)]), (8, .int .i64 ((a0.length : Nat) : Int)), (9, .int .i64 ((IntKind.i64.wrap (Int.fdiv (IntKind.u64.wrap (v9_1 + v10_1)) (2 ^ 1))) + 1)), (10, .int .i64 v10_1)]) (mem' := [(1, r42 a0_o a0), (2, .rd (some ⟨a2c0b, 0, none⟩) 1 [[.func (.func 35) #[] #[]]])]) [0, 1, 2, 8, 9, 10] [(1, 1), (2, 2)] (by kernel_rfl) (by kernel_rfl) rfl ?_
        exact ih61 ⟨rs60, ((IntKind.i64.wrap (Int.fdiv (IntKind.u64.wrap (v9_1 + v10_1)) (2 ^ 1))) + 1), v10_1⟩ hm (Nat.lt_succ_self _)
      · replace hm := br_f h49 hm
        refine GS.rzM (fun _ => [(0, .slice a0_o a0.length a0_c), (1, .string a1), (2, .func (.func 52) #[] #[.pointer (some ⟨a2c0b, 0, none⟩)]), (8, .int .i64 ((a0.length : Nat) : Int)), (9, .int .i64 v9_1), (10, .int .i64 (IntKind.i64.wrap (Int.fdiv (IntKind.u64.wrap (v9_1 + v10_1)) (2 ^ 1))))]) [] [0, 1, 2, 8, 9, 10] [1, 2] (fun _ => by kernel_rfl) ?_
        intro _
        refine GS.inBlock ?_
        refine GS.inLoop ?_
        refine GS.rekey (env' := [(0, .slice a0_o a0.length a0_c), (1, .string a1), (2, .func (.func 52) #[] #[.pointer (some ⟨a2c0b, 0, none⟩)]), (8, .int .i64 ((a0.length : Nat) : Int)), (9, .int .i64 v9_1), (10, .int .i64 (IntKind.i64.wrap (Int.fdiv (IntKind.u64.wrap (v9_1 + v10_1)) (2 ^ 1))))]) (mem' := [(1, r42 a0_o a0), (2, .rd (some ⟨a2c0b, 0, none⟩) 1 [[.func (.func 35) #[] #[]]])]) [0, 1, 2, 8, 9, 10] [(1, 1), (2, 2)] (by kernel_rfl) (by kernel_rfl) rfl ?_
        exact ih61 ⟨rs60, v9_1, (IntKind.i64.wrap (Int.fdiv (IntKind.u64.wrap (v9_1 + v10_1)) (2 ^ 1)))⟩ hm (Nat.lt_succ_self _)
    · replace hm := br_f h42 hm
      refine GS.exit rfl ?_
      refine GS.seq ?_
      refine br_elim hm (fun h67 hm => ?_) (fun h67 hm => ?_)
      · skip
        refine grd_elim hm (fun g68 hm => ?_)
        refine bnd_elim hm (fun y69 e70 hm => ?_)
        refine GS.rg (fun _ => [(6, .int .i64 v9_1), (7, .bool (y69 == 0))]) (fun _ => []) [(4, { sp := some (.bool true) }), (8, { act := .idx 1 (Int.toNat v9_1) }), (9, { act := .load 1 (Int.toNat v9_1) 0 [.string ((a0.getD (Int.toNat v9_1) dS_api_Item).Name), .int .i64 (((a0.getD (Int.toNat v9_1) dS_api_Item).Version).Epoch), .int .i64 (((a0.getD (Int.toNat v9_1) dS_api_Item).Version).N), .int .u32 ((a0.getD (Int.toNat v9_1) dS_api_Item).Crc)] }), (11, { act := .call [2] (.int .i64 y69) })] [6, 7] [] (fun _ => [((.bool (decide (v9_1 < ((a0.length : Nat) : Int)))) : Value) = .bool true, a0_o = a0_o, a0.length = (List.map S_api_Item.row a0).length, (v9_1 : Int) = (((Int.toNat v9_1) : Nat) : Int), (Int.toNat v9_1) < a0.length, blk a0_o = blk a0_o, offs a0_o + (Int.toNat v9_1) * 4 = offs a0_o + ((Int.toNat v9_1) * 4 + 0), (List.map S_api_Item.row a0)[(Int.toNat v9_1)]? = some [.string ((a0.getD (Int.toNat v9_1) dS_api_Item).Name), .int .i64 (((a0.getD (Int.toNat v9_1) dS_api_Item).Version).Epoch), .int .i64 (((a0.getD (Int.toNat v9_1) dS_api_Item).Version).N), .int .u32 ((a0.getD (Int.toNat v9_1) dS_api_Item).Crc)], CallOK Try.prog 52 #[.agg ((kc6 ((a0.getD (Int.toNat v9_1) dS_api_Item).Name) (((a0.getD (Int.toNat v9_1) dS_api_Item).Version).Epoch) (((a0.getD (Int.toNat v9_1) dS_api_Item).Version).N) ((a0.getD (Int.toNat v9_1) dS_api_Item).Crc))).toArray, .string a1, .pointer (some ⟨a2c0b, 0, none⟩)] (.int .i64 y69) [some (.rd (some ⟨a2c0b, 0, none⟩) 1 [[.func (.func 35) #[] #[]]])]]) (fun _ => by kernel_rfl) (fun _ => ⟨bool_eq h67, rfl, mlen S_api_Item.row a0, g68.eq, g68.2, rfl, rfl, map_at S_api_Item.row dS_api_Item g68.2, (by have h1 := w_pglog_look_api_Item_string__1 F (a0.getD (Int.toNat v9_1) dS_api_Item) a1 a2c0b e70; exact h1.ok ⟨(.inl ⟨.rd (some ⟨a2c0b, 0, none⟩) 1 [[.func (.func 35) #[] #[]]], .head _, Cov.refl _⟩), trivial⟩), trivial⟩) ?_
        intro _
        have hy := Option.some.inj hm
        subst hy
        refine GS.ret (fn := Try.f51) [0, 0] [.int .i64 v9_1, .bool (y69 == 0)] [] rfl Try.func51 (by kernel_rfl) trivial (fun w' hs => ?_)
        exact ⟨(), rfl, hs.turnedG (ks := []) rfl rfl⟩
      · skip
        refine GS.rg (fun _ => [(6, .int .i64 v9_1), (7, .bool false)]) (fun _ => []) [(4, { sp := some (.bool false) })] [6, 7] [] (fun _ => [((.bool (decide (v9_1 < ((a0.length : Nat) : Int)))) : Value) = .bool false]) (fun _ => by kernel_rfl) (fun _ => ⟨bool_eq h67, trivial⟩) ?_
        intro _
        have hy := Option.some.inj hm
        subst hy
        refine GS.ret (fn := Try.f51) [0, 0] [.int .i64 v9_1, .bool false] [] rfl Try.func51 (by kernel_rfl) trivial (fun w' hs => ?_)
        exact ⟨(), rfl, hs.turnedG (ks := []) rfl rfl⟩

theorem w_pglog_look_api_Item_string_ (F : Nat) (a0_o : Option Addr) (a0_c : Nat) (a0 : List S_api_Item) (a2 : ByteArray) {y : Int × Bool} (hm : m_pglog_look_api_Item_string_ F a0 a2 = some y) : CallG Try.prog 43 #[.slice a0_o a0.length a0_c, .func (.func 35) #[] #[], .string a2] (X := Unit) (fun (_ : Unit) => .tuple #[.int .i64 y.1, .bool y.2]) [] [r42 a0_o a0] (fun (_ : Unit) => []) := by
  intro w hg
  rw [m_pglog_look_api_Item_string_] at hm
  refine GS.start (S := mayT [] [r42 a0_o a0]) (mem := [(1, r42 a0_o a0)]) Try.func43 rfl Try.ntmps43 (Nat.le_of_ble_eq_true rfl) (hg.start rfl) ?_
  refine GS.conv (env' := [(0, .slice a0_o a0.length a0_c), (1, .func (.func 35) #[] #[]), (2, .string a2)]) rfl rfl ?_
  refine GS.seq ?_
  refine GS.rz (fun fr1 => [(0, .slice a0_o a0.length a0_c), (2, .string a2), (4, .pointer (some ⟨(fr1 0).x, 0, none⟩))]) (fun fr1 => [(1, r42 a0_o a0), (2, .cells ((fr1 0).x) 75 [.func (.func 35) #[] #[]])]) [(0, { act := .new .var, key := some 2 })] [0, 2, 4] [1, 2] (fun fr1 => by kernel_rfl) ?_
  intro fr1
  refine GS.seq ?_
  refine bnd_elim hm (fun y3 e4 hm => ?_)
  refine GS.rg (fun _ => [(6, .int .i64 y3.1), (7, .bool y3.2)]) (fun _ => []) [(3, { act := .call [1, 2] (.tuple #[.int .i64 y3.1, .bool y3.2]) })] [6, 7] [] (fun _ => [CallOK Try.prog 51 #[.slice a0_o a0.length a0_c, .string a2, .func (.func 52) #[] #[.pointer (some ⟨(fr1 0).x, 0, none⟩)]] (.tuple #[.int .i64 y3.1, .bool y3.2]) [some (r42 a0_o a0), some (.cells ((fr1 0).x) 75 [.func (.func 35) #[] #[]])]]) (fun _ => by kernel_rfl) (fun _ => ⟨(by have h1 := w_slices_BinarySearchFunc___api_Item_api_Item_string_ F a0_o a0_c a0 a2 (fr1 0).x e4; exact h1.ok ⟨(.inl ⟨r42 a0_o a0, .head _, Cov.refl _⟩), (.inl ⟨.cells ((fr1 0).x) 75 [.func (.func 35) #[] #[]], (.tail _ (.head _)), Cov.cells_rd⟩), trivial⟩), trivial⟩) ?_
  intro _
  have hy := Option.some.inj hm
  subst hy
  refine GS.ret (fn := Try.f43) [0, 0] [.int .i64 y3.1, .bool y3.2] [] rfl Try.func43 (by kernel_rfl) trivial (fun w' hs => ?_)
  exact ⟨(), rfl, hs.turnedG (ks := []) rfl rfl⟩

theorem w_slices_Delete___api_Item_api_Item_ (F : Nat) (a0_o : Option Addr) (a0_c : Nat) (a0 : List S_api_Item) (a1 : Int) (a2 : Int) (a0_ch : a0.length ≤ a0_c) {y : List S_api_Item} (hm : m_slices_Delete___api_Item_api_Item_ F a0 a1 a2 = some y) : CallG Try.prog 44 #[.slice a0_o a0.length a0_c, .int .i64 a1, .int .i64 a2] (X := Option Addr × Nat) (fun ⟨x0, x1⟩ => .slice x0 y.length x1) [o42 a0_o a0_c a0] [] (fun ⟨x0, x1⟩ => [o42 x0 x1 y]) := by
  intro w hg
  rw [m_slices_Delete___api_Item_api_Item_] at hm
  refine GS.start (S := mayT [o42 a0_o a0_c a0] []) (mem := [(1, o42 a0_o a0_c a0)]) Try.func44 rfl Try.ntmps44 (Nat.le_of_ble_eq_true rfl) (hg.start rfl) ?_
  refine GS.conv (env' := [(0, .slice a0_o a0.length a0_c), (1, .int .i64 a1), (2, .int .i64 a2)]) rfl rfl ?_
  refine GS.seq ?_
  refine GS.rzM (fun _ => [(0, .slice a0_o a0.length a0_c), (1, .int .i64 a1), (2, .int .i64 a2)]) [] [0, 1, 2] [1] (fun _ => by kernel_rfl) ?_
  intro _
  refine GS.seq ?_
  refine grd_elim hm (fun g3 hm => ?_)
  refine grd_elim hm (fun g4 hm => ?_)
  refine GS.rgM (fun _ => [(0, .slice a0_o a0.length a0_c), (1, .int .i64 a1), (2, .int .i64 a2)]) [(5, { act := .cut (Int.toNat a1) (Int.toNat a2) a0.length, sp := some (.slice (cutOb a0_o (Int.toNat a1) a0.length 4) ((Int.toNat a2) - (Int.toNat a1)) (a0.length - (Int.toNat a1))) })] [0, 1, 2] [1] (fun _ => [a1 = (((Int.toNat a1) : Nat) : Int), a2 = (((Int.toNat a2) : Nat) : Int), ((a0.length : Nat) : Int) = ((a0.length : Nat) : Int), (Int.toNat a1) ≤ (Int.toNat a2), (Int.toNat a2) ≤ a0.length, a0.length ≤ a0_c, (some (Operand.tmp 10) : Option Operand) = none → (some (Operand.tmp 12) : Option Operand) = none, (.slice (if a0.length = (Int.toNat a1) then a0_o else (a0_o).map (fun a => a.add ((Int.toNat a1) * 4))) ((Int.toNat a2) - (Int.toNat a1)) (a0.length - (Int.toNat a1)) : Value) = .slice (cutOb a0_o (Int.toNat a1) a0.length 4) ((Int.toNat a2) - (Int.toNat a1)) (a0.length - (Int.toNat a1))]) (fun _ => by kernel_rfl) (fun _ => ⟨g4.eq, g3.eq, rfl, g4.2, g3.2, (Nat.le_trans (Nat.le_refl _) a0_ch), (by intro h; first | rfl | cases h), rfl, trivial⟩) ?_
  intro _
  refine GS.seq ?_
  refine GS.seq ?_
  refine GS.rzM (fun _ => [(0, .slice a0_o a0.length a0_c), (1, .int .i64 a1), (2, .int .i64 a2), (16, .bool (a1 == a2))]) [] [0, 1, 2, 16] [1] (fun _ => by kernel_rfl) ?_
  intro _
  refine GS.cond (t := a1 == a2) rfl rfl (fun h6 => ?_) (fun h6 => ?_)
  · replace hm := br_t h6 hm
    refine GS.seq ?_
    refine GS.rzM (fun _ => [(6, .slice a0_o a0.length a0_c)]) [] [6] [1] (fun _ => by kernel_rfl) ?_
    intro _
    have hy := Option.some.inj hm
    subst hy
    refine GS.ret (fn := Try.f44) [0] [.slice a0_o a0.length a0_c] [] rfl Try.func44 (by kernel_rfl) trivial (fun w' hs => ?_)
    exact ⟨⟨a0_o, a0_c⟩, rfl, hs.turnedG (ks := [1]) rfl rfl⟩
  · replace hm := br_f h6 hm
    refine GS.skip ?_
    refine GS.seq ?_
    refine GS.rzM (fun _ => [(0, .slice a0_o a0.length a0_c), (1, .int .i64 a1), (2, .int .i64 a2), (7, .int .i64 ((a0.length : Nat) : Int))]) [] [0, 1, 2, 7] [1] (fun _ => by kernel_rfl) ?_
    intro _
    refine GS.seq ?_
    refine grd_elim hm (fun g10 hm => ?_)
    refine grd_elim hm (fun g11 hm => ?_)
    refine grd_elim hm (fun g12 hm => ?_)
    refine GS.region (env' := fun fr9 => [(0, .slice a0_o ((a0.take (Int.toNat a1) ++ a0.drop (Int.toNat a2)).length) a0_c), (7, .int .i64 ((a0.length : Nat) : Int))]) (mem' := fun fr9 => [(1, .osl a0_o a0_c 42 4 ((List.map S_api_Item.row a0).take (Int.toNat a1) ++ (List.map S_api_Item.row a0).drop (Int.toNat a2)))]) (RunsTo.mkd [(2, { act := .cut 0 (Int.toNat a1) a0_c, sp := some (.slice a0_o (Int.toNat a1) a0_c) }), (5, { act := .cut (Int.toNat a2) a0.length a0_c, sp := some (.slice (cutOb a0_o (Int.toNat a2) a0_c 4) (a0.length - (Int.toNat a2)) (a0_c - (Int.toNat a2))) }), (6, { act := .appSelf (Int.toNat a1) (Int.toNat a2) a0_c, key := some 1, sp := some (.slice a0_o ((a0.take (Int.toNat a1) ++ a0.drop (Int.toNat a2)).length) a0_c) })] [0, 7] [1] (fun fr9 => [0 = 0, a1 = (((Int.toNat a1) : Nat) : Int), a0_c = a0_c, 0 ≤ (Int.toNat a1), (Int.toNat a1) ≤ a0_c, a0_c ≤ a0_c, (some (Operand.tmp 21) : Option Operand) = none → (none : Option Operand) = none, (.slice (if a0_c = 0 then a0_o else (a0_o).map (fun a => a.add (0 * 4))) ((Int.toNat a1) - 0) (a0_c - 0) : Value) = .slice a0_o (Int.toNat a1) a0_c, a2 = (((Int.toNat a2) : Nat) : Int), a0.length = a0.length, a0_c = a0_c, (Int.toNat a2) ≤ a0.length, a0.length ≤ a0_c, a0_c ≤ a0_c, (none : Option Operand) = none → (none : Option Operand) = none, (.slice (if a0_c = (Int.toNat a2) then a0_o else (a0_o).map (fun a => a.add ((Int.toNat a2) * 4))) (a0.length - (Int.toNat a2)) (a0_c - (Int.toNat a2)) : Value) = .slice (cutOb a0_o (Int.toNat a2) a0_c 4) (a0.length - (Int.toNat a2)) (a0_c - (Int.toNat a2)), a0_o = a0_o, a0_c = a0_c, (Int.toNat a1) = (Int.toNat a1), (Int.toNat a1) ≤ (List.map S_api_Item.row a0).length, (Int.toNat a2) ≤ (List.map S_api_Item.row a0).length, (List.map S_api_Item.row a0).length ≤ a0_c, (cutOb a0_o (Int.toNat a2) a0_c 4) = cutOb a0_o (Int.toNat a2) a0_c 4, a0.length - (Int.toNat a2) = (List.map S_api_Item.row a0).length - (Int.toNat a2), ((Int.toNat a1) + ((List.map S_api_Item.row a0).length - (Int.toNat a2))) * (40 + 1) ≤ 70368744177664, (List.map S_api_Item.row a0).flatten.all Value.oneCell' = true, (Int.toNat a1) + ((List.map S_api_Item.row a0).length - (Int.toNat a2)) ≤ a0_c, ((.slice a0_o ((Int.toNat a1) + ((List.map S_api_Item.row a0).length - (Int.toNat a2))) a0_c) : Value) = .slice a0_o ((a0.take (Int.toNat a1) ++ a0.drop (Int.toNat a2)).length) a0_c]) (by kernel_rfl) (by kernel_rfl) (fun fr9 => by kernel_rfl) (fun fr9 => ⟨rfl, g10.eq, rfl, (Nat.zero_le _), (Nat.le_trans g10.2 a0_ch), (Nat.le_refl _), (by intro h; first | rfl | cases h), cut_zero _ _ _ _, g3.eq, rfl, rfl, g3.2, (Nat.le_trans (Nat.le_refl _) a0_ch), (Nat.le_refl _), (by intro h; first | rfl | cases h), rfl, rfl, rfl, rfl, (by rw [(mlen S_api_Item.row a0).symm]; exact g10.2), (by rw [(mlen S_api_Item.row a0).symm]; exact (Nat.le_trans g3.2 (Nat.le_refl _))), (by rw [(mlen S_api_Item.row a0).symm]; exact (Nat.le_trans (Nat.le_refl _) a0_ch)), rfl, (by rw [(mlen S_api_Item.row a0).symm]), (by rw [(mlen S_api_Item.row a0).symm]; exact g11), (all_one S_api_Item.row _ (fun _ => rfl)), (by rw [(mlen S_api_Item.row a0).symm]; exact (by have h1 := g12; have h2 : a0.length ≤ a0_c := a0_ch; have h3 : (Int.toNat a2) ≤ a0.length := (Nat.le_trans g3.2 (Nat.le_refl _)); omega)), slen (by rw [(mlen S_api_Item.row a0).symm]; simp only [List.length_append, List.length_take, List.length_drop]; have : (Int.toNat a1) ≤ a0.length := g10.2; omega), trivial⟩)) ?_
    intro fr9
    refine GS.conv (mem' := [(1, o42 a0_o a0_c (a0.take (Int.toNat a1) ++ a0.drop (Int.toNat a2)))]) rfl (congrArg (fun rr : List (List Value) => ([(1, .osl a0_o a0_c 42 4 rr)] : List (Nat × Ent))) (show (List.map S_api_Item.row a0).take (Int.toNat a1) ++ (List.map S_api_Item.row a0).drop (Int.toNat a2) = List.map S_api_Item.row (a0.take (Int.toNat a1) ++ a0.drop (Int.toNat a2)) from (by rw [show List.map S_api_Item.row a0 = List.map S_api_Item.row a0 from rfl]; simp only [List.map_append, List.map_take, List.map_drop]))) ?_
    refine GS.seq ?_
    refine grd_elim hm (fun g14 hm => ?_)
    refine GS.rgM (fun _ => [(0, .slice a0_o ((a0.take (Int.toNat a1) ++ a0.drop (Int.toNat a2)).length) a0_c)]) [(4, { act := .cut ((a0.take (Int.toNat a1) ++ a0.drop (Int.toNat a2)).length) a0.length a0_c, sp := some (.slice (cutOb a0_o (a0.take (Int.toNat a1) ++ a0.drop (Int.toNat a2)).length a0_c 4) (a0.length - ((a0.take (Int.toNat a1) ++ a0.drop (Int.toNat a2)).length)) (a0_c - ((a0.take (Int.toNat a1) ++ a0.drop (Int.toNat a2)).length))) }), (5, { act := .clearS (a0.take (Int.toNat a1) ++ a0.drop (Int.toNat a2)).length a0_c, key := some 1 })] [0] [1] (fun _ => [(((a0.take (Int.toNat a1) ++ a0.drop (Int.toNat a2)).length : Nat) : Int) = (((a0.take (Int.toNat a1) ++ a0.drop (Int.toNat a2)).length : Nat) : Int), ((a0.length : Nat) : Int) = ((a0.length : Nat) : Int), a0_c = a0_c, (a0.take (Int.toNat a1) ++ a0.drop (Int.toNat a2)).length ≤ a0.length, a0.length ≤ a0_c, a0_c ≤ a0_c, (some (Operand.tmp 30) : Option Operand) = none → (none : Option Operand) = none, (.slice (if a0_c = (a0.take (Int.toNat a1) ++ a0.drop (Int.toNat a2)).length then a0_o else (a0_o).map (fun a => a.add ((a0.take (Int.toNat a1) ++ a0.drop (Int.toNat a2)).length * 4))) (a0.length - ((a0.take (Int.toNat a1) ++ a0.drop (Int.toNat a2)).length)) (a0_c - ((a0.take (Int.toNat a1) ++ a0.drop (Int.toNat a2)).length)) : Value) = .slice (cutOb a0_o (a0.take (Int.toNat a1) ++ a0.drop (Int.toNat a2)).length a0_c 4) (a0.length - ((a0.take (Int.toNat a1) ++ a0.drop (Int.toNat a2)).length)) (a0_c - ((a0.take (Int.toNat a1) ++ a0.drop (Int.toNat a2)).length)), cutOb a0_o (a0.take (Int.toNat a1) ++ a0.drop (Int.toNat a2)).length a0_c 4 = cutOb a0_o (a0.take (Int.toNat a1) ++ a0.drop (Int.toNat a2)).length a0_c 4, (List.map S_api_Item.row (a0.take (Int.toNat a1) ++ a0.drop (Int.toNat a2))).length ≤ (a0.take (Int.toNat a1) ++ a0.drop (Int.toNat a2)).length, (a0.take (Int.toNat a1) ++ a0.drop (Int.toNat a2)).length + (a0.length - ((a0.take (Int.toNat a1) ++ a0.drop (Int.toNat a2)).length)) ≤ a0_c, a0_c ≤ a0_c]) (fun _ => by kernel_rfl) (fun _ => ⟨rfl, rfl, rfl, g14, a0_ch, (Nat.le_refl _), (by intro h; first | rfl | cases h), rfl, rfl, (by rw [(mlen S_api_Item.row (a0.take (Int.toNat a1) ++ a0.drop (Int.toNat a2))).symm]; exact Nat.le_refl _), (by have h1 : a0.length ≤ a0_c := a0_ch; have h2 : (a0.take (Int.toNat a1) ++ a0.drop (Int.toNat a2)).length ≤ a0.length := g14; omega), (Nat.le_refl _), trivial⟩) ?_
    intro _
    refine GS.seq ?_
    refine GS.rzM (fun _ => [(6, .slice a0_o ((a0.take (Int.toNat a1) ++ a0.drop (Int.toNat a2)).length) a0_c)]) [] [6] [1] (fun _ => by kernel_rfl) ?_
    intro _
    have hy := Option.some.inj hm
    subst hy
    refine GS.ret (fn := Try.f44) [0] [.slice a0_o ((a0.take (Int.toNat a1) ++ a0.drop (Int.toNat a2)).length) a0_c] [] rfl Try.func44 (by kernel_rfl) trivial (fun w' hs => ?_)
    exact ⟨⟨a0_o, a0_c⟩, rfl, hs.turnedG (ks := [1]) rfl rfl⟩

theorem w_pglog_below (F : Nat) (a0 : S_api_Version) {y : Bool} (hm : m_pglog_below F a0 = some y) : CallG Try.prog 33 #[.agg #[.int .i64 a0.Epoch, .int .i64 a0.N]] (X := Unit) (fun (_ : Unit) => .bool y) [] [] (fun (_ : Unit) => []) := by
  intro w hg
  rw [m_pglog_below] at hm
  refine GS.start (S := mayT [] []) (mem := []) Try.func33 rfl Try.ntmps33 (Nat.le_of_ble_eq_true rfl) (hg.start rfl) ?_
  refine GS.conv (env' := [(0, .agg #[.int .i64 a0.Epoch, .int .i64 a0.N])]) rfl rfl ?_
  refine GS.seq ?_
  refine GS.rz (fun fr1 => [(1, .pointer (some ⟨(fr1 0).x, 0, none⟩))]) (fun fr1 => [(1, .cells ((fr1 0).x) 23 [.int .i64 a0.Epoch, .int .i64 a0.N])]) [(0, { act := .new .var, key := some 1 })] [1] [1] (fun fr1 => by kernel_rfl) ?_
  intro fr1
  refine GS.seq ?_
  refine br_elim hm (fun h3 hm => ?_) (fun h3 hm => ?_)
  · skip
    refine GS.rg (fun _ => [(2, .bool true)]) (fun _ => []) [(1, { act := .load 1 0 0 [] }), (3, { sp := some (.bool true) })] [2] [] (fun _ => [(fr1 0).x = (fr1 0).x, ((.bool (decide (a0.Epoch < 0))) : Value) = .bool true]) (fun _ => by kernel_rfl) (fun _ => ⟨rfl, bool_eq h3, trivial⟩) ?_
    intro _
    have hy := Option.some.inj hm
    subst hy
    refine GS.ret (fn := Try.f33) [0] [.bool true] [] rfl Try.func33 (by kernel_rfl) trivial (fun w' hs => ?_)
    exact ⟨(), rfl, hs.turnedG (ks := []) rfl rfl⟩
  · skip
    refine GS.rg (fun _ => [(2, .bool (decide (a0.N < 0)))]) (fun _ => []) [(1, { act := .load 1 0 0 [] }), (3, { sp := some (.bool false) }), (5, { act := .load 1 0 0 [] })] [2] [] (fun _ => [(fr1 0).x = (fr1 0).x, ((.bool (decide (a0.Epoch < 0))) : Value) = .bool false, (fr1 0).x = (fr1 0).x]) (fun _ => by kernel_rfl) (fun _ => ⟨rfl, bool_eq h3, rfl, trivial⟩) ?_
    intro _
    have hy := Option.some.inj hm
    subst hy
    refine GS.ret (fn := Try.f33) [0] [.bool (decide (a0.N < 0))] [] rfl Try.func33 (by kernel_rfl) trivial (fun w' hs => ?_)
    exact ⟨(), rfl, hs.turnedG (ks := []) rfl rfl⟩

theorem w_pglog_rising_api_Item_string_ (F : Nat) (a0_o : Option Addr) (a0_c : Nat) (a0 : List S_api_Item) {y : Bool} (hm : m_pglog_rising_api_Item_string_ F a0 = some y) : CallG Try.prog 34 #[.slice a0_o a0.length a0_c, .func (.func 35) #[] #[]] (X := Unit) (fun (_ : Unit) => .bool y) [] [r42 a0_o a0] (fun (_ : Unit) => []) := by
  intro w hg
  rw [m_pglog_rising_api_Item_string_] at hm
  refine GS.start (S := mayT [] [r42 a0_o a0]) (mem := [(1, r42 a0_o a0)]) Try.func34 rfl Try.ntmps34 (Nat.le_of_ble_eq_true rfl) (hg.start rfl) ?_
  refine GS.conv (env' := [(0, .slice a0_o a0.length a0_c), (1, .func (.func 35) #[] #[])]) rfl rfl ?_
  refine GS.seq ?_
  refine GS.rzM (fun _ => [(0, .slice a0_o a0.length a0_c), (1, .func (.func 35) #[] #[])]) [] [0, 1] [1] (fun _ => by kernel_rfl) ?_
  intro _
  refine GS.seq ?_
  refine GS.seq ?_
  refine GS.rzM (fun _ => [(0, .slice a0_o a0.length a0_c), (1, .func (.func 35) #[] #[]), (5, .int .i64 1)]) [] [0, 1, 5] [1] (fun _ => by kernel_rfl) ?_
  intro _
  refine GS.block ?_
  refine GS.loop ?_
  refine grd_elim hm (fun g30 hm => ?_)
  refine GS.rekey (env' := [(0, .slice a0_o a0.length a0_c), (1, .func (.func 35) #[] #[]), (5, .int .i64 1)]) (mem' := [(1, r42 a0_o a0)]) [0, 1, 5] [(1, 1)] (by kernel_rfl) (by kernel_rfl) rfl ?_
  refine loopL_elim hm (fun st49 fn50 hst51 hfn52 hm => ?_)
  refine GS.loopInv (ι := List S_api_Item × Nat) (I := fun ⟨rs47, v5_1⟩ => a0.drop v5_1 = rs47 ∧ loopL st49 fn50 rs47 v5_1 () = some y) (μ := fun ⟨rs47, v5_1⟩ => rs47.length) (E := fun ⟨rs47, v5_1⟩ => [(0, .slice a0_o a0.length a0_c), (1, .func (.func 35) #[] #[]), (5, .int .i64 ((v5_1 : Nat) : Int))]) (M := fun ⟨rs47, v5_1⟩ => [(1, r42 a0_o a0)]) ?_ ⟨(a0.drop 1), 1⟩ ⟨rfl, hm⟩
  rintro ⟨rs47, v5_1⟩ ⟨hd29, hm⟩ ih48
  cases rs47 with
  | nil =>
    replace hm := (hfn52 _ _).symm.trans hm
    try dsimp only at hm
    refine GS.seq ?_
    refine GS.seq ?_
    refine GS.rzM (fun _ => [(0, .slice a0_o a0.length a0_c), (1, .func (.func 35) #[] #[]), (5, .int .i64 ((v5_1 : Nat) : Int)), (9, .bool (decide (((v5_1 : Nat) : Int) < ((a0.length : Nat) : Int))))]) [] [0, 1, 5, 9] [1] (fun _ => by kernel_rfl) ?_
    intro _
    refine GS.cond (t := decide (((v5_1 : Nat) : Int) < ((a0.length : Nat) : Int))) rfl rfl (fun h45 => absb h45 (drop_dec0 hd29)) (fun _ => ?_)
    refine GS.exit rfl ?_
    refine GS.seq ?_
    refine GS.rz (fun _ => [(4, .bool true)]) (fun _ => []) [] [4] [] (fun _ => by kernel_rfl) ?_
    intro _
    have hy := Option.some.inj hm
    subst hy
    refine GS.ret (fn := Try.f34) [0] [.bool true] [] rfl Try.func34 (by kernel_rfl) trivial (fun w' hs => ?_)
    exact ⟨(), rfl, hs.turnedG (ks := []) rfl rfl⟩
  | cons x31 rs47 =>
    replace hm := (hst51 _ _ _ _).symm.trans hm
    try dsimp only at hm
    refine GS.seq ?_
    refine GS.seq ?_
    refine GS.rzM (fun _ => [(0, .slice a0_o a0.length a0_c), (1, .func (.func 35) #[] #[]), (5, .int .i64 ((v5_1 : Nat) : Int)), (9, .bool (decide (((v5_1 : Nat) : Int) < ((a0.length : Nat) : Int))))]) [] [0, 1, 5, 9] [1] (fun _ => by kernel_rfl) ?_
    intro _
    refine GS.cond (t := decide (((v5_1 : Nat) : Int) < ((a0.length : Nat) : Int))) rfl rfl (fun _ => ?_) (fun h33 => absb (drop_dec hd29) h33)
    refine GS.skip ?_
    refine GS.seq ?_
    refine GS.block ?_
    refine GS.seq ?_
    refine grd_elim hm (fun g35 hm => ?_)
    refine grd_elim hm (fun g36 hm => ?_)
    refine bnd_elim hm (fun y37 e38 hm => ?_)
    refine bnd_elim hm (fun y39 e40 hm => ?_)
    refine GS.rM (env' := fun _ => [(0, .slice a0_o a0.length a0_c), (1, .func (.func 35) #[] #[]), (5, .int .i64 ((v5_1 : Nat) : Int)), (25, .bool (!(Op.bytesLess y37.toList y39.toList)))]) (RunsTo.mkd [(3, { sp := some (.int .i64 (((v5_1 : Nat) : Int) - 1)) }), (4, { act := .idx 1 (Int.toNat (((v5_1 : Nat) : Int) - 1)) }), (5, { act := .load 1 (Int.toNat (((v5_1 : Nat) : Int) - 1)) 0 [.string ((a0.getD (Int.toNat (((v5_1 : Nat) : Int) - 1)) dS_api_Item).Name), .int .i64 (((a0.getD (Int.toNat (((v5_1 : Nat) : Int) - 1)) dS_api_Item).Version).Epoch), .int .i64 (((a0.getD (Int.toNat (((v5_1 : Nat) : Int) - 1)) dS_api_Item).Version).N), .int .u32 ((a0.getD (Int.toNat (((v5_1 : Nat) : Int) - 1)) dS_api_Item).Crc)] }), (6, { act := .call [] (.string y37) }), (10, { act := .idx 1 v5_1 }), (11, { act := .load 1 v5_1 0 [.string x31.Name, .int .i64 x31.Version.Epoch, .int .i64 x31.Version.N, .int .u32 x31.Crc] }), (12, { act := .call [] (.string y39) })] [0, 1, 5, 25] [1] (fun _ => [((.int .i64 (IntKind.i64.wrap (((v5_1 : Nat) : Int) - 1))) : Value) = .int .i64 (((v5_1 : Nat) : Int) - 1), a0_o = a0_o, a0.length = (List.map S_api_Item.row a0).length, ((((v5_1 : Nat) : Int) - 1) : Int) = (((Int.toNat (((v5_1 : Nat) : Int) - 1)) : Nat) : Int), (Int.toNat (((v5_1 : Nat) : Int) - 1)) < a0.length, blk a0_o = blk a0_o, offs a0_o + (Int.toNat (((v5_1 : Nat) : Int) - 1)) * 4 = offs a0_o + ((Int.toNat (((v5_1 : Nat) : Int) - 1)) * 4 + 0), (List.map S_api_Item.row a0)[(Int.toNat (((v5_1 : Nat) : Int) - 1))]? = some [.string ((a0.getD (Int.toNat (((v5_1 : Nat) : Int) - 1)) dS_api_Item).Name), .int .i64 (((a0.getD (Int.toNat (((v5_1 : Nat) : Int) - 1)) dS_api_Item).Version).Epoch), .int .i64 (((a0.getD (Int.toNat (((v5_1 : Nat) : Int) - 1)) dS_api_Item).Version).N), .int .u32 ((a0.getD (Int.toNat (((v5_1 : Nat) : Int) - 1)) dS_api_Item).Crc)], CallOK Try.prog 35 #[.agg ((kc6 ((a0.getD (Int.toNat (((v5_1 : Nat) : Int) - 1)) dS_api_Item).Name) (((a0.getD (Int.toNat (((v5_1 : Nat) : Int) - 1)) dS_api_Item).Version).Epoch) (((a0.getD (Int.toNat (((v5_1 : Nat) : Int) - 1)) dS_api_Item).Version).N) ((a0.getD (Int.toNat (((v5_1 : Nat) : Int) - 1)) dS_api_Item).Crc))).toArray] (.string y37) [], a0_o = a0_o, a0.length = (List.map S_api_Item.row a0).length, (((v5_1 : Nat) : Int) : Int) = ((v5_1 : Nat) : Int), v5_1 < a0.length, blk a0_o = blk a0_o, offs a0_o + v5_1 * 4 = offs a0_o + (v5_1 * 4 + 0), (List.map S_api_Item.row a0)[v5_1]? = some [.string x31.Name, .int .i64 x31.Version.Epoch, .int .i64 x31.Version.N, .int .u32 x31.Crc], CallOK Try.prog 35 #[.agg ((kc6 x31.Name x31.Version.Epoch x31.Version.N x31.Crc)).toArray] (.string y39) []]) (by kernel_rfl) (by kernel_rfl) (fun _ => by kernel_rfl) (fun _ => ⟨I64.w g35, rfl, mlen S_api_Item.row a0, g36.eq, g36.2, rfl, rfl, map_at S_api_Item.row dS_api_Item g36.2, (by have h1 := w_pglog_itemName F (a0.getD (Int.toNat (((v5_1 : Nat) : Int) - 1)) dS_api_Item) e38; exact h1.ok trivial), rfl, mlen S_api_Item.row a0, rfl, (drop_lt hd29), rfl, rfl, map_drop S_api_Item.row hd29, (by have h1 := w_pglog_itemName F x31 e40; exact h1.ok trivial), trivial⟩)) ?_
    intro _
    refine GS.cond (t := !(Op.bytesLess y37.toList y39.toList)) rfl rfl (fun h41 => ?_) (fun h41 => ?_)
    · replace hm := br_t h41 hm
      refine GS.seq ?_
      refine GS.rz (fun _ => [(4, .bool false)]) (fun _ => []) [] [4] [] (fun _ => by kernel_rfl) ?_
      intro _
      have hy := Option.some.inj hm
      subst hy
      refine GS.ret (fn := Try.f34) [0] [.bool false] [] rfl Try.func34 (by kernel_rfl) trivial (fun w' hs => ?_)
      exact ⟨(), rfl, hs.turnedG (ks := []) rfl rfl⟩
    · replace hm := br_f h41 hm
      refine GS.skip ?_
      refine GS.inBlock ?_
      refine GS.rgM (fun _ => [(0, .slice a0_o a0.length a0_c), (1, .func (.func 35) #[] #[]), (5, .int .i64 ((v5_1 + 1 : Nat) : Int))]) [(1, { sp := some (.int .i64 ((v5_1 + 1 : Nat) : Int)) })] [0, 1, 5] [1] (fun _ => [((.int .i64 (IntKind.i64.wrap (((v5_1 : Nat) : Int) + 1))) : Value) = .int .i64 ((v5_1 + 1 : Nat) : Int)]) (fun _ => by kernel_rfl) (fun _ => ⟨natw (drop_lt hd29) g30, trivial⟩) ?_
      intro _
      refine GS.inLoop ?_
      refine GS.rekey (env' := [(0, .slice a0_o a0.length a0_c), (1, .func (.func 35) #[] #[]), (5, .int .i64 ((v5_1 + 1 : Nat) : Int))]) (mem' := [(1, r42 a0_o a0)]) [0, 1, 5] [(1, 1)] (by kernel_rfl) (by kernel_rfl) rfl ?_
      exact ih48 ⟨rs47, v5_1 + 1⟩ ⟨drop_next hd29, hm⟩ (Nat.lt_succ_self _)

theorem w_pglog_rising_api_Last_int_ (F : Nat) (a0_o : Option Addr) (a0_c : Nat) (a0 : List S_api_Last) {y : Bool} (hm : m_pglog_rising_api_Last_int_ F a0 = some y) : CallG Try.prog 36 #[.slice a0_o a0.length a0_c, .func (.func 37) #[] #[]] (X := Unit) (fun (_ : Unit) => .bool y) [] [r47 a0_o a0] (fun (_ : Unit) => []) := by
  intro w hg
  rw [m_pglog_rising_api_Last_int_] at hm
  refine GS.start (S := mayT [] [r47 a0_o a0]) (mem := [(1, r47 a0_o a0)]) Try.func36 rfl Try.ntmps36 (Nat.le_of_ble_eq_true rfl) (hg.start rfl) ?_
  refine GS.conv (env' := [(0, .slice a0_o a0.length a0_c), (1, .func (.func 37) #[] #[])]) rfl rfl ?_
  refine GS.seq ?_
  refine GS.rzM (fun _ => [(0, .slice a0_o a0.length a0_c), (1, .func (.func 37) #[] #[])]) [] [0, 1] [1] (fun _ => by kernel_rfl) ?_
  intro _
  refine GS.seq ?_
  refine GS.seq ?_
  refine GS.rzM (fun _ => [(0, .slice a0_o a0.length a0_c), (1, .func (.func 37) #[] #[]), (5, .int .i64 1)]) [] [0, 1, 5] [1] (fun _ => by kernel_rfl) ?_
  intro _
  refine GS.block ?_
  refine GS.loop ?_
  refine grd_elim hm (fun g30 hm => ?_)
  refine GS.rekey (env' := [(0, .slice a0_o a0.length a0_c), (1, .func (.func 37) #[] #[]), (5, .int .i64 1)]) (mem' := [(1, r47 a0_o a0)]) [0, 1, 5] [(1, 1)] (by kernel_rfl) (by kernel_rfl) rfl ?_
  refine loopL_elim hm (fun st49 fn50 hst51 hfn52 hm => ?_)
  refine GS.loopInv (ι := List S_api_Last × Nat) (I := fun ⟨rs47, v5_1⟩ => a0.drop v5_1 = rs47 ∧ loopL st49 fn50 rs47 v5_1 () = some y) (μ := fun ⟨rs47, v5_1⟩ => rs47.length) (E := fun ⟨rs47, v5_1⟩ => [(0, .slice a0_o a0.length a0_c), (1, .func (.func 37) #[] #[]), (5, .int .i64 ((v5_1 : Nat) : Int))]) (M := fun ⟨rs47, v5_1⟩ => [(1, r47 a0_o a0)]) ?_ ⟨(a0.drop 1), 1⟩ ⟨rfl, hm⟩
  rintro ⟨rs47, v5_1⟩ ⟨hd29, hm⟩ ih48
  cases rs47 with
  | nil =>
    replace hm := (hfn52 _ _).symm.trans hm
    try dsimp only at hm
    refine GS.seq ?_
    refine GS.seq ?_
    refine GS.rzM (fun _ => [(0, .slice a0_o a0.length a0_c), (1, .func (.func 37) #[] #[]), (5, .int .i64 ((v5_1 : Nat) : Int)), (9, .bool (decide (((v5_1 : Nat) : Int) < ((a0.length : Nat) : Int))))]) [] [0, 1, 5, 9] [1] (fun _ => by kernel_rfl) ?_
    intro _
    refine GS.cond (t := decide (((v5_1 : Nat) : Int) < ((a0.length : Nat) : Int))) rfl rfl (fun h45 => absb h45 (drop_dec0 hd29)) (fun _ => ?_)
    refine GS.exit rfl ?_
    refine GS.seq ?_
    refine GS.rz (fun _ => [(4, .bool true)]) (fun _ => []) [] [4] [] (fun _ => by kernel_rfl) ?_
    intro _
    have hy := Option.some.inj hm
    subst hy
    refine GS.ret (fn := Try.f36) [0] [.bool true] [] rfl Try.func36 (by kernel_rfl) trivial (fun w' hs => ?_)
    exact ⟨(), rfl, hs.turnedG (ks := []) rfl rfl⟩
  | cons x31 rs47 =>
    replace hm := (hst51 _ _ _ _).symm.trans hm
    try dsimp only at hm
    refine GS.seq ?_
    refine GS.seq ?_
    refine GS.rzM (fun _ => [(0, .slice a0_o a0.length a0_c), (1, .func (.func 37) #[] #[]), (5, .int .i64 ((v5_1 : Nat) : Int)), (9, .bool (decide (((v5_1 : Nat) : Int) < ((a0.length : Nat) : Int))))]) [] [0, 1, 5, 9] [1] (fun _ => by kernel_rfl) ?_
    intro _
    refine GS.cond (t := decide (((v5_1 : Nat) : Int) < ((a0.length : Nat) : Int))) rfl rfl (fun _ => ?_) (fun h33 => absb (drop_dec hd29) h33)
    refine GS.skip ?_
    refine GS.seq ?_
    refine GS.block ?_
    refine GS.seq ?_
    refine grd_elim hm (fun g35 hm => ?_)
    refine grd_elim hm (fun g36 hm => ?_)
    refine bnd_elim hm (fun y37 e38 hm => ?_)
    refine bnd_elim hm (fun y39 e40 hm => ?_)
    refine GS.rM (env' := fun _ => [(0, .slice a0_o a0.length a0_c), (1, .func (.func 37) #[] #[]), (5, .int .i64 ((v5_1 : Nat) : Int)), (25, .bool (decide (y37 ≥ y39)))]) (RunsTo.mkd [(3, { sp := some (.int .i64 (((v5_1 : Nat) : Int) - 1)) }), (4, { act := .idx 1 (Int.toNat (((v5_1 : Nat) : Int) - 1)) }), (5, { act := .load 1 (Int.toNat (((v5_1 : Nat) : Int) - 1)) 0 [.int .i64 ((a0.getD (Int.toNat (((v5_1 : Nat) : Int) - 1)) dS_api_Last).Client), .int .i64 ((a0.getD (Int.toNat (((v5_1 : Nat) : Int) - 1)) dS_api_Last).Number), .int .i64 ((a0.getD (Int.toNat (((v5_1 : Nat) : Int) - 1)) dS_api_Last).Errno), .int .i64 (((a0.getD (Int.toNat (((v5_1 : Nat) : Int) - 1)) dS_api_Last).Version).Epoch), .int .i64 (((a0.getD (Int.toNat (((v5_1 : Nat) : Int) - 1)) dS_api_Last).Version).N)] }), (6, { act := .call [] (.int .i64 y37) }), (10, { act := .idx 1 v5_1 }), (11, { act := .load 1 v5_1 0 [.int .i64 x31.Client, .int .i64 x31.Number, .int .i64 x31.Errno, .int .i64 x31.Version.Epoch, .int .i64 x31.Version.N] }), (12, { act := .call [] (.int .i64 y39) })] [0, 1, 5, 25] [1] (fun _ => [((.int .i64 (IntKind.i64.wrap (((v5_1 : Nat) : Int) - 1))) : Value) = .int .i64 (((v5_1 : Nat) : Int) - 1), a0_o = a0_o, a0.length = (List.map S_api_Last.row a0).length, ((((v5_1 : Nat) : Int) - 1) : Int) = (((Int.toNat (((v5_1 : Nat) : Int) - 1)) : Nat) : Int), (Int.toNat (((v5_1 : Nat) : Int) - 1)) < a0.length, blk a0_o = blk a0_o, offs a0_o + (Int.toNat (((v5_1 : Nat) : Int) - 1)) * 5 = offs a0_o + ((Int.toNat (((v5_1 : Nat) : Int) - 1)) * 5 + 0), (List.map S_api_Last.row a0)[(Int.toNat (((v5_1 : Nat) : Int) - 1))]? = some [.int .i64 ((a0.getD (Int.toNat (((v5_1 : Nat) : Int) - 1)) dS_api_Last).Client), .int .i64 ((a0.getD (Int.toNat (((v5_1 : Nat) : Int) - 1)) dS_api_Last).Number), .int .i64 ((a0.getD (Int.toNat (((v5_1 : Nat) : Int) - 1)) dS_api_Last).Errno), .int .i64 (((a0.getD (Int.toNat (((v5_1 : Nat) : Int) - 1)) dS_api_Last).Version).Epoch), .int .i64 (((a0.getD (Int.toNat (((v5_1 : Nat) : Int) - 1)) dS_api_Last).Version).N)], CallOK Try.prog 37 #[.agg ((kc10 ((a0.getD (Int.toNat (((v5_1 : Nat) : Int) - 1)) dS_api_Last).Client) ((a0.getD (Int.toNat (((v5_1 : Nat) : Int) - 1)) dS_api_Last).Number) ((a0.getD (Int.toNat (((v5_1 : Nat) : Int) - 1)) dS_api_Last).Errno) (((a0.getD (Int.toNat (((v5_1 : Nat) : Int) - 1)) dS_api_Last).Version).Epoch) (((a0.getD (Int.toNat (((v5_1 : Nat) : Int) - 1)) dS_api_Last).Version).N))).toArray] (.int .i64 y37) [], a0_o = a0_o, a0.length = (List.map S_api_Last.row a0).length, (((v5_1 : Nat) : Int) : Int) = ((v5_1 : Nat) : Int), v5_1 < a0.length, blk a0_o = blk a0_o, offs a0_o + v5_1 * 5 = offs a0_o + (v5_1 * 5 + 0), (List.map S_api_Last.row a0)[v5_1]? = some [.int .i64 x31.Client, .int .i64 x31.Number, .int .i64 x31.Errno, .int .i64 x31.Version.Epoch, .int .i64 x31.Version.N], CallOK Try.prog 37 #[.agg ((kc10 x31.Client x31.Number x31.Errno x31.Version.Epoch x31.Version.N)).toArray] (.int .i64 y39) []]) (by kernel_rfl) (by kernel_rfl) (fun _ => by kernel_rfl) (fun _ => ⟨I64.w g35, rfl, mlen S_api_Last.row a0, g36.eq, g36.2, rfl, rfl, map_at S_api_Last.row dS_api_Last g36.2, (by have h1 := w_pglog_lastClient F (a0.getD (Int.toNat (((v5_1 : Nat) : Int) - 1)) dS_api_Last) e38; exact h1.ok trivial), rfl, mlen S_api_Last.row a0, rfl, (drop_lt hd29), rfl, rfl, map_drop S_api_Last.row hd29, (by have h1 := w_pglog_lastClient F x31 e40; exact h1.ok trivial), trivial⟩)) ?_
    intro _
    refine GS.cond (t := decide (y37 ≥ y39)) rfl rfl (fun h41 => ?_) (fun h41 => ?_)
    · replace hm := br_t h41 hm
      refine GS.seq ?_
      refine GS.rz (fun _ => [(4, .bool false)]) (fun _ => []) [] [4] [] (fun _ => by kernel_rfl) ?_
      intro _
      have hy := Option.some.inj hm
      subst hy
      refine GS.ret (fn := Try.f36) [0] [.bool false] [] rfl Try.func36 (by kernel_rfl) trivial (fun w' hs => ?_)
      exact ⟨(), rfl, hs.turnedG (ks := []) rfl rfl⟩
    · replace hm := br_f h41 hm
      refine GS.skip ?_
      refine GS.inBlock ?_
      refine GS.rgM (fun _ => [(0, .slice a0_o a0.length a0_c), (1, .func (.func 37) #[] #[]), (5, .int .i64 ((v5_1 + 1 : Nat) : Int))]) [(1, { sp := some (.int .i64 ((v5_1 + 1 : Nat) : Int)) })] [0, 1, 5] [1] (fun _ => [((.int .i64 (IntKind.i64.wrap (((v5_1 : Nat) : Int) + 1))) : Value) = .int .i64 ((v5_1 + 1 : Nat) : Int)]) (fun _ => by kernel_rfl) (fun _ => ⟨natw (drop_lt hd29) g30, trivial⟩) ?_
      intro _
      refine GS.inLoop ?_
      refine GS.rekey (env' := [(0, .slice a0_o a0.length a0_c), (1, .func (.func 37) #[] #[]), (5, .int .i64 ((v5_1 + 1 : Nat) : Int))]) (mem' := [(1, r47 a0_o a0)]) [0, 1, 5] [(1, 1)] (by kernel_rfl) (by kernel_rfl) rfl ?_
      exact ih48 ⟨rs47, v5_1 + 1⟩ ⟨drop_next hd29, hm⟩ (Nat.lt_succ_self _)

end Go.Proofs.Ytmoaiokgbjkaaaa
