/-
  CHAPTER 13: the functions do what their models say (1).
-/
import Derived.Test.YtmoaiokgbjkaaaaM13
set_option linter.unusedVariables false
set_option linter.unusedSimpArgs false
set_option maxRecDepth 100000
namespace Go.Proofs.Ytmoaiokgbjkaaaa
open Go Go.RowKit Sx

theorem w_cmp_isNaN_int_ (F : Nat) (a0 : Int) {y : Bool} (hm : m_cmp_isNaN_int_ F a0 = some y) : CallG Try.prog 46 #[.int .i64 a0] (X := Unit) (fun (_ : Unit) => .bool y) [] [] (fun (_ : Unit) => []) := by
  intro w hg
  rw [m_cmp_isNaN_int_] at hm
  refine GS.start (S := mayT []) (mem := []) Try.func46 rfl Try.ntmps46 (Nat.le_of_ble_eq_true rfl) (hg.start rfl) ?_
  refine GS.conv (env' := [(0, .int .i64 a0)]) rfl rfl ?_
  refine GS.seq ?_
  refine GS.region (env' := fun _ => [(0, .int .i64 a0)]) (mem' := fun _ => []) (RunsTo.mk [] [0] [] (fun _ => []) (fun _ => by kernel_rfl) (fun _ => trivial)) ?_
  intro _
  refine GS.seq ?_
  refine GS.region (env' := fun _ => [(2, .bool (a0 != a0))]) (mem' := fun _ => []) (RunsTo.mk [] [2] [] (fun _ => []) (fun _ => by kernel_rfl) (fun _ => trivial)) ?_
  intro _
  have hy := Option.some.inj hm
  subst hy
  refine GS.ret (fn := Try.f46) [0] [.bool (a0 != a0)] [] rfl Try.func46 (by kernel_rfl) trivial (fun w' hs => ?_)
  exact ⟨(), rfl, hs.turnedG (ks := []) rfl rfl (ownAllG rfl)⟩

theorem w_cmp_Compare_int_ (F : Nat) (a0 : Int) (a1 : Int) {y : Int} (hm : m_cmp_Compare_int_ F a0 a1 = some y) : CallG Try.prog 29 #[.int .i64 a0, .int .i64 a1] (X := Unit) (fun (_ : Unit) => .int .i64 y) [] [] (fun (_ : Unit) => []) := by
  intro w hg
  rw [m_cmp_Compare_int_] at hm
  refine GS.start (S := mayT []) (mem := []) Try.func29 rfl Try.ntmps29 (Nat.le_of_ble_eq_true rfl) (hg.start rfl) ?_
  refine GS.conv (env' := [(0, .int .i64 a0), (1, .int .i64 a1)]) rfl rfl ?_
  refine GS.seq ?_
  refine GS.region (env' := fun _ => [(0, .int .i64 a0), (1, .int .i64 a1)]) (mem' := fun _ => []) (RunsTo.mk [] [0, 1] [] (fun _ => []) (fun _ => by kernel_rfl) (fun _ => trivial)) ?_
  intro _
  refine GS.seq ?_
  refine bnd_elim hm (fun y3 e4 hm => ?_)
  refine GS.region (env' := fun _ => [(0, .int .i64 a0), (1, .int .i64 a1), (5, .bool y3)]) (mem' := fun _ => []) (RunsTo.mk [(1, { act := .call [] (.bool y3) })] [0, 1, 5] [] (fun _ => [CallOK Try.prog 46 #[.int .i64 a0] (.bool y3) []]) (fun _ => by kernel_rfl) (fun _ => ⟨(w_cmp_isNaN_int_ F a0 e4).ok trivial, trivial⟩)) ?_
  intro _
  refine GS.seq ?_
  refine bnd_elim hm (fun y6 e7 hm => ?_)
  refine GS.region (env' := fun _ => [(0, .int .i64 a0), (1, .int .i64 a1), (5, .bool y3), (6, .bool y6)]) (mem' := fun _ => []) (RunsTo.mk [(1, { act := .call [] (.bool y6) })] [0, 1, 5, 6] [] (fun _ => [CallOK Try.prog 46 #[.int .i64 a1] (.bool y6) []]) (fun _ => by kernel_rfl) (fun _ => ⟨(w_cmp_isNaN_int_ F a1 e7).ok trivial, trivial⟩)) ?_
  intro _
  refine GS.seq ?_
  refine GS.seq ?_
  refine GS.region (env' := fun _ => [(0, .int .i64 a0), (1, .int .i64 a1), (6, .bool y6), (11, .bool y3)]) (mem' := fun _ => []) (RunsTo.mk [] [0, 1, 6, 11] [] (fun _ => []) (fun _ => by kernel_rfl) (fun _ => trivial)) ?_
  intro _
  refine GS.cond (t := y3) rfl rfl (fun h9 => ?_) (fun h9 => ?_)
  · replace hm := br_t h9 hm
    refine GS.seq ?_
    refine GS.seq ?_
    refine GS.region (env' := fun _ => [(12, .bool y6)]) (mem' := fun _ => []) (RunsTo.mk [] [12] [] (fun _ => []) (fun _ => by kernel_rfl) (fun _ => trivial)) ?_
    intro _
    refine GS.cond (t := y6) rfl rfl (fun h11 => ?_) (fun h11 => ?_)
    · replace hm := br_t h11 hm
      refine GS.seq ?_
      refine GS.region (env' := fun _ => [(4, .int .i64 0)]) (mem' := fun _ => []) (RunsTo.mk [] [4] [] (fun _ => []) (fun _ => by kernel_rfl) (fun _ => trivial)) ?_
      intro _
      have hy := Option.some.inj hm
      subst hy
      refine GS.ret (fn := Try.f29) [0] [.int .i64 0] [] rfl Try.func29 (by kernel_rfl) trivial (fun w' hs => ?_)
      exact ⟨(), rfl, hs.turnedG (ks := []) rfl rfl (ownAllG rfl)⟩
    · replace hm := br_f h11 hm
      refine GS.skip ?_
      refine GS.seq ?_
      refine GS.region (env' := fun _ => [(4, .int .i64 (-1))]) (mem' := fun _ => []) (RunsTo.mk [] [4] [] (fun _ => []) (fun _ => by kernel_rfl) (fun _ => trivial)) ?_
      intro _
      have hy := Option.some.inj hm
      subst hy
      refine GS.ret (fn := Try.f29) [0] [.int .i64 (-1)] [] rfl Try.func29 (by kernel_rfl) trivial (fun w' hs => ?_)
      exact ⟨(), rfl, hs.turnedG (ks := []) rfl rfl (ownAllG rfl)⟩
  · replace hm := br_f h9 hm
    refine GS.skip ?_
    refine GS.seq ?_
    refine GS.seq ?_
    refine GS.region (env' := fun _ => [(0, .int .i64 a0), (1, .int .i64 a1), (13, .bool y6)]) (mem' := fun _ => []) (RunsTo.mk [] [0, 1, 13] [] (fun _ => []) (fun _ => by kernel_rfl) (fun _ => trivial)) ?_
    intro _
    refine GS.cond (t := y6) rfl rfl (fun h15 => ?_) (fun h15 => ?_)
    · replace hm := br_t h15 hm
      refine GS.seq ?_
      refine GS.region (env' := fun _ => [(4, .int .i64 1)]) (mem' := fun _ => []) (RunsTo.mk [] [4] [] (fun _ => []) (fun _ => by kernel_rfl) (fun _ => trivial)) ?_
      intro _
      have hy := Option.some.inj hm
      subst hy
      refine GS.ret (fn := Try.f29) [0] [.int .i64 1] [] rfl Try.func29 (by kernel_rfl) trivial (fun w' hs => ?_)
      exact ⟨(), rfl, hs.turnedG (ks := []) rfl rfl (ownAllG rfl)⟩
    · replace hm := br_f h15 hm
      refine GS.skip ?_
      refine GS.seq ?_
      refine GS.seq ?_
      refine GS.region (env' := fun _ => [(0, .int .i64 a0), (1, .int .i64 a1), (16, .bool (decide (a0 < a1)))]) (mem' := fun _ => []) (RunsTo.mk [] [0, 1, 16] [] (fun _ => []) (fun _ => by kernel_rfl) (fun _ => trivial)) ?_
      intro _
      refine GS.cond (t := decide (a0 < a1)) rfl rfl (fun h18 => ?_) (fun h18 => ?_)
      · replace hm := br_t h18 hm
        refine GS.seq ?_
        refine GS.region (env' := fun _ => [(4, .int .i64 (-1))]) (mem' := fun _ => []) (RunsTo.mk [] [4] [] (fun _ => []) (fun _ => by kernel_rfl) (fun _ => trivial)) ?_
        intro _
        have hy := Option.some.inj hm
        subst hy
        refine GS.ret (fn := Try.f29) [0] [.int .i64 (-1)] [] rfl Try.func29 (by kernel_rfl) trivial (fun w' hs => ?_)
        exact ⟨(), rfl, hs.turnedG (ks := []) rfl rfl (ownAllG rfl)⟩
      · replace hm := br_f h18 hm
        refine GS.skip ?_
        refine GS.seq ?_
        refine GS.seq ?_
        refine GS.region (env' := fun _ => [(19, .bool (decide (a0 > a1)))]) (mem' := fun _ => []) (RunsTo.mk [] [19] [] (fun _ => []) (fun _ => by kernel_rfl) (fun _ => trivial)) ?_
        intro _
        refine GS.cond (t := decide (a0 > a1)) rfl rfl (fun h21 => ?_) (fun h21 => ?_)
        · replace hm := br_t h21 hm
          refine GS.seq ?_
          refine GS.region (env' := fun _ => [(4, .int .i64 1)]) (mem' := fun _ => []) (RunsTo.mk [] [4] [] (fun _ => []) (fun _ => by kernel_rfl) (fun _ => trivial)) ?_
          intro _
          have hy := Option.some.inj hm
          subst hy
          refine GS.ret (fn := Try.f29) [0] [.int .i64 1] [] rfl Try.func29 (by kernel_rfl) trivial (fun w' hs => ?_)
          exact ⟨(), rfl, hs.turnedG (ks := []) rfl rfl (ownAllG rfl)⟩
        · replace hm := br_f h21 hm
          refine GS.skip ?_
          refine GS.seq ?_
          refine GS.region (env' := fun _ => [(4, .int .i64 0)]) (mem' := fun _ => []) (RunsTo.mk [] [4] [] (fun _ => []) (fun _ => by kernel_rfl) (fun _ => trivial)) ?_
          intro _
          have hy := Option.some.inj hm
          subst hy
          refine GS.ret (fn := Try.f29) [0] [.int .i64 0] [] rfl Try.func29 (by kernel_rfl) trivial (fun w' hs => ?_)
          exact ⟨(), rfl, hs.turnedG (ks := []) rfl rfl (ownAllG rfl)⟩

theorem w_pglog_Cmp (F : Nat) (a0 : S_api_Version) (a1 : S_api_Version) {y : Int} (hm : m_pglog_Cmp F a0 a1 = some y) : CallG Try.prog 7 #[.agg #[.int .i64 a0.Epoch, .int .i64 a0.N], .agg #[.int .i64 a1.Epoch, .int .i64 a1.N]] (X := Unit) (fun (_ : Unit) => .int .i64 y) [] [] (fun (_ : Unit) => []) := by
  intro w hg
  rw [m_pglog_Cmp] at hm
  refine GS.start (S := mayT []) (mem := []) Try.func7 rfl Try.ntmps7 (Nat.le_of_ble_eq_true rfl) (hg.start rfl) ?_
  refine GS.conv (env' := [(0, .agg #[.int .i64 a0.Epoch, .int .i64 a0.N]), (1, .agg #[.int .i64 a1.Epoch, .int .i64 a1.N])]) rfl rfl ?_
  refine GS.seq ?_
  refine GS.region (env' := fun fr1 => [(2, .pointer (some ⟨(fr1 0).x, 0, none⟩)), (3, .pointer (some ⟨(fr1 1).x, 0, none⟩))]) (mem' := fun fr1 => [(1, .cells ((fr1 0).x) 23 [.int .i64 a0.Epoch, .int .i64 a0.N]), (2, .cells ((fr1 1).x) 23 [.int .i64 a1.Epoch, .int .i64 a1.N])]) (RunsTo.mk [(0, { act := .new .var, key := some 1 }), (1, { act := .new .var, key := some 2 })] [2, 3] [1, 2] (fun fr1 => []) (fun fr1 => by kernel_rfl) (fun fr1 => trivial)) ?_
  intro fr1
  refine GS.seq ?_
  refine GS.seq ?_
  refine bnd_elim hm (fun y3 e4 hm => ?_)
  refine GS.region (env' := fun _ => [(2, .pointer (some ⟨(fr1 0).x, 0, none⟩)), (3, .pointer (some ⟨(fr1 1).x, 0, none⟩)), (5, .int .i64 y3)]) (mem' := fun _ => [(1, .cells ((fr1 0).x) 23 [.int .i64 a0.Epoch, .int .i64 a0.N]), (2, .cells ((fr1 1).x) 23 [.int .i64 a1.Epoch, .int .i64 a1.N])]) (RunsTo.mk [(1, { act := .load 1 0 0 [] }), (3, { act := .load 2 0 0 [] }), (4, { act := .call [] (.int .i64 y3) })] [2, 3, 5] [1, 2] (fun _ => [(fr1 0).x = (fr1 0).x, (fr1 1).x = (fr1 1).x, CallOK Try.prog 29 #[.int .i64 a0.Epoch, .int .i64 a1.Epoch] (.int .i64 y3) []]) (fun _ => by kernel_rfl) (fun _ => ⟨rfl, rfl, (w_cmp_Compare_int_ F a0.Epoch a1.Epoch e4).ok trivial, trivial⟩)) ?_
  intro _
  refine GS.seq ?_
  refine GS.region (env' := fun _ => [(2, .pointer (some ⟨(fr1 0).x, 0, none⟩)), (3, .pointer (some ⟨(fr1 1).x, 0, none⟩)), (5, .int .i64 y3), (12, .bool (y3 != 0))]) (mem' := fun _ => [(1, .cells ((fr1 0).x) 23 [.int .i64 a0.Epoch, .int .i64 a0.N]), (2, .cells ((fr1 1).x) 23 [.int .i64 a1.Epoch, .int .i64 a1.N])]) (RunsTo.mk [] [2, 3, 5, 12] [1, 2] (fun _ => []) (fun _ => by kernel_rfl) (fun _ => trivial)) ?_
  intro _
  refine GS.cond (t := y3 != 0) rfl rfl (fun h6 => ?_) (fun h6 => ?_)
  · replace hm := br_t h6 hm
    refine GS.seq ?_
    refine GS.region (env' := fun _ => [(4, .int .i64 y3)]) (mem' := fun _ => []) (RunsTo.mk [] [4] [] (fun _ => []) (fun _ => by kernel_rfl) (fun _ => trivial)) ?_
    intro _
    have hy := Option.some.inj hm
    subst hy
    refine GS.ret (fn := Try.f7) [0] [.int .i64 y3] [] rfl Try.func7 (by kernel_rfl) trivial (fun w' hs => ?_)
    exact ⟨(), rfl, hs.turnedG (ks := []) rfl rfl (ownAllG rfl)⟩
  · replace hm := br_f h6 hm
    refine GS.skip ?_
    refine GS.seq ?_
    refine bnd_elim hm (fun y9 e10 hm => ?_)
    refine GS.region (env' := fun _ => [(4, .int .i64 y9)]) (mem' := fun _ => []) (RunsTo.mk [(1, { act := .load 1 0 0 [] }), (3, { act := .load 2 0 0 [] }), (4, { act := .call [] (.int .i64 y9) })] [4] [] (fun _ => [(fr1 0).x = (fr1 0).x, (fr1 1).x = (fr1 1).x, CallOK Try.prog 29 #[.int .i64 a0.N, .int .i64 a1.N] (.int .i64 y9) []]) (fun _ => by kernel_rfl) (fun _ => ⟨rfl, rfl, (w_cmp_Compare_int_ F a0.N a1.N e10).ok trivial, trivial⟩)) ?_
    intro _
    have hy := Option.some.inj hm
    subst hy
    refine GS.ret (fn := Try.f7) [0] [.int .i64 y9] [] rfl Try.func7 (by kernel_rfl) trivial (fun w' hs => ?_)
    exact ⟨(), rfl, hs.turnedG (ks := []) rfl rfl (ownAllG rfl)⟩

theorem w_tholeref13_Cmp (F : Nat) (a0 : S_api_Version) (a1 : S_api_Version) {y : Int} (hm : m_tholeref13_Cmp F a0 a1 = some y) : CallG Try.prog 8 #[.agg #[.int .i64 a0.Epoch, .int .i64 a0.N], .agg #[.int .i64 a1.Epoch, .int .i64 a1.N]] (X := Unit) (fun (_ : Unit) => .int .i64 y) [] [] (fun (_ : Unit) => []) := by
  intro w hg
  rw [m_tholeref13_Cmp] at hm
  refine GS.start (S := mayT []) (mem := []) Try.func8 rfl Try.ntmps8 (Nat.le_of_ble_eq_true rfl) (hg.start rfl) ?_
  refine GS.conv (env' := [(0, .agg #[.int .i64 a0.Epoch, .int .i64 a0.N]), (1, .agg #[.int .i64 a1.Epoch, .int .i64 a1.N])]) rfl rfl ?_
  refine GS.seq ?_
  refine GS.region (env' := fun fr1 => [(2, .pointer (some ⟨(fr1 0).x, 0, none⟩)), (3, .pointer (some ⟨(fr1 1).x, 0, none⟩))]) (mem' := fun fr1 => [(1, .cells ((fr1 0).x) 23 [.int .i64 a0.Epoch, .int .i64 a0.N]), (2, .cells ((fr1 1).x) 23 [.int .i64 a1.Epoch, .int .i64 a1.N])]) (RunsTo.mk [(0, { act := .new .var, key := some 1 }), (1, { act := .new .var, key := some 2 })] [2, 3] [1, 2] (fun fr1 => []) (fun fr1 => by kernel_rfl) (fun fr1 => trivial)) ?_
  intro fr1
  refine GS.seq ?_
  refine GS.block ?_
  refine GS.seq ?_
  refine GS.seq ?_
  refine GS.region (env' := fun _ => [(2, .pointer (some ⟨(fr1 0).x, 0, none⟩)), (3, .pointer (some ⟨(fr1 1).x, 0, none⟩)), (5, .bool (decide (a0.Epoch < a1.Epoch)))]) (mem' := fun _ => [(1, .cells ((fr1 0).x) 23 [.int .i64 a0.Epoch, .int .i64 a0.N]), (2, .cells ((fr1 1).x) 23 [.int .i64 a1.Epoch, .int .i64 a1.N])]) (RunsTo.mk [(1, { act := .load 1 0 0 [] }), (3, { act := .load 2 0 0 [] })] [2, 3, 5] [1, 2] (fun _ => [(fr1 0).x = (fr1 0).x, (fr1 1).x = (fr1 1).x]) (fun _ => by kernel_rfl) (fun _ => ⟨rfl, rfl, trivial⟩)) ?_
  intro _
  refine jn_elim hm (fun J9 hJ11 hm => ?_)
  refine GS.cut (ι := Bool) (I := fun (v5_1 : Bool) => J9 v5_1 = some y) (E := fun (v5_1 : Bool) => [(2, .pointer (some ⟨(fr1 0).x, 0, none⟩)), (3, .pointer (some ⟨(fr1 1).x, 0, none⟩)), (5, .bool v5_1)]) (M := fun (v5_1 : Bool) => [(1, .cells ((fr1 0).x) 23 [.int .i64 a0.Epoch, .int .i64 a0.N]), (2, .cells ((fr1 1).x) 23 [.int .i64 a1.Epoch, .int .i64 a1.N])]) ?_ ?_
  rotate_left
  · intro H10
    refine GS.cond (t := decide (a0.Epoch < a1.Epoch)) rfl rfl (fun h3 => ?_) (fun h3 => ?_)
    · replace hm := br_t h3 hm
      refine GS.skip ?_
      refine GS.rekey (env' := [(2, .pointer (some ⟨(fr1 0).x, 0, none⟩)), (3, .pointer (some ⟨(fr1 1).x, 0, none⟩)), (5, .bool (decide (a0.Epoch < a1.Epoch)))]) (mem' := [(1, .cells ((fr1 0).x) 23 [.int .i64 a0.Epoch, .int .i64 a0.N]), (2, .cells ((fr1 1).x) 23 [.int .i64 a1.Epoch, .int .i64 a1.N])]) [2, 3, 5] [(1, 1), (2, 2)] (by kernel_rfl) (by kernel_rfl) rfl ?_
      exact H10 (decide (a0.Epoch < a1.Epoch)) hm
    · replace hm := br_f h3 hm
      refine br_elim hm (fun h5 hm => ?_) (fun h5 hm => ?_)
      · skip
        refine GS.region (env' := fun _ => [(2, .pointer (some ⟨(fr1 0).x, 0, none⟩)), (3, .pointer (some ⟨(fr1 1).x, 0, none⟩)), (5, .bool (decide (a0.N < a1.N)))]) (mem' := fun _ => [(1, .cells ((fr1 0).x) 23 [.int .i64 a0.Epoch, .int .i64 a0.N]), (2, .cells ((fr1 1).x) 23 [.int .i64 a1.Epoch, .int .i64 a1.N])]) (RunsTo.mk [(1, { act := .load 1 0 0 [] }), (3, { act := .load 2 0 0 [] }), (5, { sp := some (.bool true) }), (7, { act := .load 1 0 0 [] }), (9, { act := .load 2 0 0 [] })] [2, 3, 5] [1, 2] (fun _ => [(fr1 0).x = (fr1 0).x, (fr1 1).x = (fr1 1).x, ((.bool (a0.Epoch == a1.Epoch)) : Value) = .bool true, (fr1 0).x = (fr1 0).x, (fr1 1).x = (fr1 1).x]) (fun _ => by kernel_rfl) (fun _ => ⟨rfl, rfl, bool_eq h5, rfl, rfl, trivial⟩)) ?_
        intro _
        refine GS.rekey (env' := [(2, .pointer (some ⟨(fr1 0).x, 0, none⟩)), (3, .pointer (some ⟨(fr1 1).x, 0, none⟩)), (5, .bool (decide (a0.N < a1.N)))]) (mem' := [(1, .cells ((fr1 0).x) 23 [.int .i64 a0.Epoch, .int .i64 a0.N]), (2, .cells ((fr1 1).x) 23 [.int .i64 a1.Epoch, .int .i64 a1.N])]) [2, 3, 5] [(1, 1), (2, 2)] (by kernel_rfl) (by kernel_rfl) rfl ?_
        exact H10 (decide (a0.N < a1.N)) hm
      · skip
        refine GS.region (env' := fun _ => [(2, .pointer (some ⟨(fr1 0).x, 0, none⟩)), (3, .pointer (some ⟨(fr1 1).x, 0, none⟩)), (5, .bool false)]) (mem' := fun _ => [(1, .cells ((fr1 0).x) 23 [.int .i64 a0.Epoch, .int .i64 a0.N]), (2, .cells ((fr1 1).x) 23 [.int .i64 a1.Epoch, .int .i64 a1.N])]) (RunsTo.mk [(1, { act := .load 1 0 0 [] }), (3, { act := .load 2 0 0 [] }), (5, { sp := some (.bool false) })] [2, 3, 5] [1, 2] (fun _ => [(fr1 0).x = (fr1 0).x, (fr1 1).x = (fr1 1).x, ((.bool (a0.Epoch == a1.Epoch)) : Value) = .bool false]) (fun _ => by kernel_rfl) (fun _ => ⟨rfl, rfl, bool_eq h5, trivial⟩)) ?_
        intro _
        refine GS.rekey (env' := [(2, .pointer (some ⟨(fr1 0).x, 0, none⟩)), (3, .pointer (some ⟨(fr1 1).x, 0, none⟩)), (5, .bool false)]) (mem' := [(1, .cells ((fr1 0).x) 23 [.int .i64 a0.Epoch, .int .i64 a0.N]), (2, .cells ((fr1 1).x) 23 [.int .i64 a1.Epoch, .int .i64 a1.N])]) [2, 3, 5] [(1, 1), (2, 2)] (by kernel_rfl) (by kernel_rfl) rfl ?_
        exact H10 false hm
  · rintro v5_1 hm
    replace hm := (hJ11 _).symm.trans hm
    try dsimp only at hm
    refine GS.cond (t := v5_1) rfl rfl (fun h12 => ?_) (fun h12 => ?_)
    · replace hm := br_t h12 hm
      refine GS.seq ?_
      refine GS.region (env' := fun _ => [(4, .int .i64 (-1))]) (mem' := fun _ => []) (RunsTo.mk [] [4] [] (fun _ => []) (fun _ => by kernel_rfl) (fun _ => trivial)) ?_
      intro _
      have hy := Option.some.inj hm
      subst hy
      refine GS.ret (fn := Try.f8) [0] [.int .i64 (-1)] [] rfl Try.func8 (by kernel_rfl) trivial (fun w' hs => ?_)
      exact ⟨(), rfl, hs.turnedG (ks := []) rfl rfl (ownAllG rfl)⟩
    · replace hm := br_f h12 hm
      refine GS.seq ?_
      refine GS.region (env' := fun _ => [(23, .bool (S_api_Version.beq a0 a1))]) (mem' := fun _ => []) (RunsTo.mk [(0, { act := .load 1 0 0 [] }), (1, { act := .load 2 0 0 [] }), (2, { act := .eq })] [23] [] (fun _ => [(fr1 0).x = (fr1 0).x, (fr1 1).x = (fr1 1).x]) (fun _ => by kernel_rfl) (fun _ => ⟨rfl, rfl, trivial⟩)) ?_
      intro _
      refine GS.cond (t := S_api_Version.beq a0 a1) rfl rfl (fun h15 => ?_) (fun h15 => ?_)
      · replace hm := br_t h15 hm
        refine GS.seq ?_
        refine GS.region (env' := fun _ => [(4, .int .i64 0)]) (mem' := fun _ => []) (RunsTo.mk [] [4] [] (fun _ => []) (fun _ => by kernel_rfl) (fun _ => trivial)) ?_
        intro _
        have hy := Option.some.inj hm
        subst hy
        refine GS.ret (fn := Try.f8) [0] [.int .i64 0] [] rfl Try.func8 (by kernel_rfl) trivial (fun w' hs => ?_)
        exact ⟨(), rfl, hs.turnedG (ks := []) rfl rfl (ownAllG rfl)⟩
      · replace hm := br_f h15 hm
        refine GS.skip ?_
        refine GS.inBlock ?_
        refine GS.seq ?_
        refine GS.region (env' := fun _ => [(4, .int .i64 1)]) (mem' := fun _ => []) (RunsTo.mk [] [4] [] (fun _ => []) (fun _ => by kernel_rfl) (fun _ => trivial)) ?_
        intro _
        have hy := Option.some.inj hm
        subst hy
        refine GS.ret (fn := Try.f8) [0] [.int .i64 1] [] rfl Try.func8 (by kernel_rfl) trivial (fun w' hs => ?_)
        exact ⟨(), rfl, hs.turnedG (ks := []) rfl rfl (ownAllG rfl)⟩

theorem w_slices_Equal___api_Entry_api_Entry_ (F : Nat) (a0_o : Option Addr) (a0_c : Nat) (a0 : List S_api_Entry) (a1_o : Option Addr) (a1_c : Nat) (a1 : List S_api_Entry) {y : Bool} (hm : m_slices_Equal___api_Entry_api_Entry_ F a0 a1 = some y) : CallG Try.prog 30 #[.slice a0_o a0.length a0_c, .slice a1_o a1.length a1_c] (X := Unit) (fun (_ : Unit) => .bool y) [] [r52 a0_o a0, r52 a1_o a1] (fun (_ : Unit) => []) := by
  intro w hg
  rw [m_slices_Equal___api_Entry_api_Entry_] at hm
  refine GS.start (S := mayT []) (mem := [(1, r52 a0_o a0), (2, r52 a1_o a1)]) Try.func30 rfl Try.ntmps30 (Nat.le_of_ble_eq_true rfl) (hg.start rfl) ?_
  refine GS.conv (env' := [(0, .slice a0_o a0.length a0_c), (1, .slice a1_o a1.length a1_c)]) rfl rfl ?_
  refine GS.seq ?_
  refine GS.region (env' := fun _ => [(0, .slice a0_o a0.length a0_c), (1, .slice a1_o a1.length a1_c)]) (mem' := fun _ => [(1, r52 a0_o a0), (2, r52 a1_o a1)]) (RunsTo.mk [] [0, 1] [1, 2] (fun _ => []) (fun _ => by kernel_rfl) (fun _ => trivial)) ?_
  intro _
  refine GS.seq ?_
  refine GS.seq ?_
  refine GS.region (env' := fun _ => [(0, .slice a0_o a0.length a0_c), (1, .slice a1_o a1.length a1_c), (10, .bool (((a0.length : Nat) : Int) != ((a1.length : Nat) : Int)))]) (mem' := fun _ => [(1, r52 a0_o a0), (2, r52 a1_o a1)]) (RunsTo.mk [] [0, 1, 10] [1, 2] (fun _ => []) (fun _ => by kernel_rfl) (fun _ => trivial)) ?_
  intro _
  refine GS.cond (t := ((a0.length : Nat) : Int) != ((a1.length : Nat) : Int)) rfl rfl (fun h3 => ?_) (fun h3 => ?_)
  · replace hm := br_t h3 hm
    refine GS.seq ?_
    refine GS.region (env' := fun _ => [(4, .bool false)]) (mem' := fun _ => []) (RunsTo.mk [] [4] [] (fun _ => []) (fun _ => by kernel_rfl) (fun _ => trivial)) ?_
    intro _
    have hy := Option.some.inj hm
    subst hy
    refine GS.ret (fn := Try.f30) [0] [.bool false] [] rfl Try.func30 (by kernel_rfl) trivial (fun w' hs => ?_)
    exact ⟨(), rfl, hs.turnedG (ks := []) rfl rfl (ownAllG rfl)⟩
  · replace hm := br_f h3 hm
    refine GS.skip ?_
    refine GS.seq ?_
    refine GS.seq ?_
    refine GS.region (env' := fun _ => [(0, .slice a0_o a0.length a0_c), (1, .slice a1_o a1.length a1_c), (12, .int .i64 ((a0.length : Nat) : Int)), (13, .int .i64 0)]) (mem' := fun _ => [(1, r52 a0_o a0), (2, r52 a1_o a1)]) (RunsTo.mk [] [0, 1, 12, 13] [1, 2] (fun _ => []) (fun _ => by kernel_rfl) (fun _ => trivial)) ?_
    intro _
    refine GS.block ?_
    refine GS.loop ?_
    refine grd_elim hm (fun g26 hm => ?_)
    refine GS.rekey (env' := [(0, .slice a0_o a0.length a0_c), (1, .slice a1_o a1.length a1_c), (12, .int .i64 ((a0.length : Nat) : Int)), (13, .int .i64 0)]) (mem' := [(1, r52 a0_o a0), (2, r52 a1_o a1)]) [0, 1, 12, 13] [(1, 1), (2, 2)] (by kernel_rfl) (by kernel_rfl) rfl ?_
    refine loopL_elim hm (fun st41 fn42 hst43 hfn44 hm => ?_)
    refine GS.loopInv (ι := List S_api_Entry × Nat) (I := fun ⟨rs39, v13_1⟩ => a0.drop v13_1 = rs39 ∧ loopL st41 fn42 rs39 v13_1 () = some y) (μ := fun ⟨rs39, v13_1⟩ => rs39.length) (E := fun ⟨rs39, v13_1⟩ => [(0, .slice a0_o a0.length a0_c), (1, .slice a1_o a1.length a1_c), (12, .int .i64 ((a0.length : Nat) : Int)), (13, .int .i64 ((v13_1 : Nat) : Int))]) (M := fun ⟨rs39, v13_1⟩ => [(1, r52 a0_o a0), (2, r52 a1_o a1)]) ?_ ⟨a0, 0⟩ ⟨List.drop_zero .., hm⟩
    rintro ⟨rs39, v13_1⟩ ⟨hd25, hm⟩ ih40
    cases rs39 with
    | nil =>
      replace hm := (hfn44 _ _).symm.trans hm
      try dsimp only at hm
      refine GS.seq ?_
      refine GS.region (env' := fun _ => [(0, .slice a0_o a0.length a0_c), (1, .slice a1_o a1.length a1_c), (12, .int .i64 ((a0.length : Nat) : Int)), (13, .int .i64 ((v13_1 : Nat) : Int)), (14, .bool (decide (((v13_1 : Nat) : Int) < ((a0.length : Nat) : Int))))]) (mem' := fun _ => [(1, r52 a0_o a0), (2, r52 a1_o a1)]) (RunsTo.mk [] [0, 1, 12, 13, 14] [1, 2] (fun _ => []) (fun _ => by kernel_rfl) (fun _ => trivial)) ?_
      intro _
      refine GS.seq ?_
      refine GS.cond (t := decide (((v13_1 : Nat) : Int) < ((a0.length : Nat) : Int))) rfl rfl (fun h37 => absb h37 (drop_dec0 hd25)) (fun _ => ?_)
      refine GS.exit rfl ?_
      refine GS.seq ?_
      refine GS.region (env' := fun _ => [(4, .bool true)]) (mem' := fun _ => []) (RunsTo.mk [] [4] [] (fun _ => []) (fun _ => by kernel_rfl) (fun _ => trivial)) ?_
      intro _
      have hy := Option.some.inj hm
      subst hy
      refine GS.ret (fn := Try.f30) [0] [.bool true] [] rfl Try.func30 (by kernel_rfl) trivial (fun w' hs => ?_)
      exact ⟨(), rfl, hs.turnedG (ks := []) rfl rfl (ownAllG rfl)⟩
    | cons x27 rs39 =>
      replace hm := (hst43 _ _ _ _).symm.trans hm
      try dsimp only at hm
      refine GS.seq ?_
      refine GS.region (env' := fun _ => [(0, .slice a0_o a0.length a0_c), (1, .slice a1_o a1.length a1_c), (12, .int .i64 ((a0.length : Nat) : Int)), (13, .int .i64 ((v13_1 : Nat) : Int)), (14, .bool (decide (((v13_1 : Nat) : Int) < ((a0.length : Nat) : Int))))]) (mem' := fun _ => [(1, r52 a0_o a0), (2, r52 a1_o a1)]) (RunsTo.mk [] [0, 1, 12, 13, 14] [1, 2] (fun _ => []) (fun _ => by kernel_rfl) (fun _ => trivial)) ?_
      intro _
      refine GS.seq ?_
      refine GS.cond (t := decide (((v13_1 : Nat) : Int) < ((a0.length : Nat) : Int))) rfl rfl (fun _ => ?_) (fun h29 => absb (drop_dec hd25) h29)
      refine GS.skip ?_
      refine GS.seq ?_
      refine GS.block ?_
      refine GS.seq ?_
      refine GS.region (env' := fun _ => [(0, .slice a0_o a0.length a0_c), (1, .slice a1_o a1.length a1_c), (5, .int .i64 ((v13_1 : Nat) : Int)), (12, .int .i64 ((a0.length : Nat) : Int)), (13, .int .i64 ((v13_1 : Nat) : Int))]) (mem' := fun _ => [(1, r52 a0_o a0), (2, r52 a1_o a1)]) (RunsTo.mk [] [0, 1, 5, 12, 13] [1, 2] (fun _ => []) (fun _ => by kernel_rfl) (fun _ => trivial)) ?_
      intro _
      refine GS.seq ?_
      refine grd_elim hm (fun g32 hm => ?_)
      refine GS.region (env' := fun _ => [(0, .slice a0_o a0.length a0_c), (1, .slice a1_o a1.length a1_c), (12, .int .i64 ((a0.length : Nat) : Int)), (13, .int .i64 ((v13_1 : Nat) : Int)), (24, .bool (!(S_api_Entry.beq x27 (a1.getD v13_1 dS_api_Entry))))]) (mem' := fun _ => [(1, r52 a0_o a0), (2, r52 a1_o a1)]) (RunsTo.mkd [(2, { act := .idx 1 v13_1 }), (3, { act := .load 1 v13_1 0 [.int .i64 x27.Version.Epoch, .int .i64 x27.Version.N, .bool x27.Remove, .int .i64 x27.Errno, .string x27.Name, .int .i64 x27.Client, .int .i64 x27.Number] }), (6, { act := .idx 2 v13_1 }), (7, { act := .load 2 v13_1 0 [.int .i64 (((a1.getD v13_1 dS_api_Entry).Version).Epoch), .int .i64 (((a1.getD v13_1 dS_api_Entry).Version).N), .bool ((a1.getD v13_1 dS_api_Entry).Remove), .int .i64 ((a1.getD v13_1 dS_api_Entry).Errno), .string ((a1.getD v13_1 dS_api_Entry).Name), .int .i64 ((a1.getD v13_1 dS_api_Entry).Client), .int .i64 ((a1.getD v13_1 dS_api_Entry).Number)] }), (8, { act := .eq })] [0, 1, 12, 13, 24] [1, 2] (fun _ => [a0_o = a0_o, a0.length = (List.map S_api_Entry.row a0).length, (((v13_1 : Nat) : Int) : Int) = ((v13_1 : Nat) : Int), v13_1 < a0.length, blk a0_o = blk a0_o, offs a0_o + v13_1 * 7 = offs a0_o + (v13_1 * 7 + 0), (List.map S_api_Entry.row a0)[v13_1]? = some [.int .i64 x27.Version.Epoch, .int .i64 x27.Version.N, .bool x27.Remove, .int .i64 x27.Errno, .string x27.Name, .int .i64 x27.Client, .int .i64 x27.Number], a1_o = a1_o, a1.length = (List.map S_api_Entry.row a1).length, (((v13_1 : Nat) : Int) : Int) = ((v13_1 : Nat) : Int), v13_1 < a1.length, blk a1_o = blk a1_o, offs a1_o + v13_1 * 7 = offs a1_o + (v13_1 * 7 + 0), (List.map S_api_Entry.row a1)[v13_1]? = some [.int .i64 (((a1.getD v13_1 dS_api_Entry).Version).Epoch), .int .i64 (((a1.getD v13_1 dS_api_Entry).Version).N), .bool ((a1.getD v13_1 dS_api_Entry).Remove), .int .i64 ((a1.getD v13_1 dS_api_Entry).Errno), .string ((a1.getD v13_1 dS_api_Entry).Name), .int .i64 ((a1.getD v13_1 dS_api_Entry).Client), .int .i64 ((a1.getD v13_1 dS_api_Entry).Number)]]) (by kernel_rfl) (by kernel_rfl) (fun _ => by kernel_rfl) (fun _ => ⟨rfl, mlen S_api_Entry.row a0, rfl, (drop_lt hd25), rfl, rfl, map_drop S_api_Entry.row hd25, rfl, mlen S_api_Entry.row a1, rfl, g32, rfl, rfl, map_at S_api_Entry.row dS_api_Entry g32, trivial⟩)) ?_
      intro _
      refine GS.cond (t := !(S_api_Entry.beq x27 (a1.getD v13_1 dS_api_Entry))) rfl rfl (fun h33 => ?_) (fun h33 => ?_)
      · replace hm := br_t h33 hm
        refine GS.seq ?_
        refine GS.region (env' := fun _ => [(4, .bool false)]) (mem' := fun _ => []) (RunsTo.mk [] [4] [] (fun _ => []) (fun _ => by kernel_rfl) (fun _ => trivial)) ?_
        intro _
        have hy := Option.some.inj hm
        subst hy
        refine GS.ret (fn := Try.f30) [0] [.bool false] [] rfl Try.func30 (by kernel_rfl) trivial (fun w' hs => ?_)
        exact ⟨(), rfl, hs.turnedG (ks := []) rfl rfl (ownAllG rfl)⟩
      · replace hm := br_f h33 hm
        refine GS.skip ?_
        refine GS.inBlock ?_
        refine GS.region (env' := fun _ => [(0, .slice a0_o a0.length a0_c), (1, .slice a1_o a1.length a1_c), (12, .int .i64 ((a0.length : Nat) : Int)), (13, .int .i64 ((v13_1 + 1 : Nat) : Int))]) (mem' := fun _ => [(1, r52 a0_o a0), (2, r52 a1_o a1)]) (RunsTo.mk [(0, { sp := some (.int .i64 ((v13_1 + 1 : Nat) : Int)) })] [0, 1, 12, 13] [1, 2] (fun _ => [((.int .i64 (IntKind.i64.wrap (((v13_1 : Nat) : Int) + 1))) : Value) = .int .i64 ((v13_1 + 1 : Nat) : Int)]) (fun _ => by kernel_rfl) (fun _ => ⟨natw (drop_lt hd25) g26, trivial⟩)) ?_
        intro _
        refine GS.inLoop ?_
        refine GS.rekey (env' := [(0, .slice a0_o a0.length a0_c), (1, .slice a1_o a1.length a1_c), (12, .int .i64 ((a0.length : Nat) : Int)), (13, .int .i64 ((v13_1 + 1 : Nat) : Int))]) (mem' := [(1, r52 a0_o a0), (2, r52 a1_o a1)]) [0, 1, 12, 13] [(1, 1), (2, 2)] (by kernel_rfl) (by kernel_rfl) rfl ?_
        exact ih40 ⟨rs39, v13_1 + 1⟩ ⟨drop_next hd25, hm⟩ (Nat.lt_succ_self _)

theorem w_slices_Equal___api_Last_api_Last_ (F : Nat) (a0_o : Option Addr) (a0_c : Nat) (a0 : List S_api_Last) (a1_o : Option Addr) (a1_c : Nat) (a1 : List S_api_Last) {y : Bool} (hm : m_slices_Equal___api_Last_api_Last_ F a0 a1 = some y) : CallG Try.prog 31 #[.slice a0_o a0.length a0_c, .slice a1_o a1.length a1_c] (X := Unit) (fun (_ : Unit) => .bool y) [] [r47 a0_o a0, r47 a1_o a1] (fun (_ : Unit) => []) := by
  intro w hg
  rw [m_slices_Equal___api_Last_api_Last_] at hm
  refine GS.start (S := mayT []) (mem := [(1, r47 a0_o a0), (2, r47 a1_o a1)]) Try.func31 rfl Try.ntmps31 (Nat.le_of_ble_eq_true rfl) (hg.start rfl) ?_
  refine GS.conv (env' := [(0, .slice a0_o a0.length a0_c), (1, .slice a1_o a1.length a1_c)]) rfl rfl ?_
  refine GS.seq ?_
  refine GS.region (env' := fun _ => [(0, .slice a0_o a0.length a0_c), (1, .slice a1_o a1.length a1_c)]) (mem' := fun _ => [(1, r47 a0_o a0), (2, r47 a1_o a1)]) (RunsTo.mk [] [0, 1] [1, 2] (fun _ => []) (fun _ => by kernel_rfl) (fun _ => trivial)) ?_
  intro _
  refine GS.seq ?_
  refine GS.seq ?_
  refine GS.region (env' := fun _ => [(0, .slice a0_o a0.length a0_c), (1, .slice a1_o a1.length a1_c), (10, .bool (((a0.length : Nat) : Int) != ((a1.length : Nat) : Int)))]) (mem' := fun _ => [(1, r47 a0_o a0), (2, r47 a1_o a1)]) (RunsTo.mk [] [0, 1, 10] [1, 2] (fun _ => []) (fun _ => by kernel_rfl) (fun _ => trivial)) ?_
  intro _
  refine GS.cond (t := ((a0.length : Nat) : Int) != ((a1.length : Nat) : Int)) rfl rfl (fun h3 => ?_) (fun h3 => ?_)
  · replace hm := br_t h3 hm
    refine GS.seq ?_
    refine GS.region (env' := fun _ => [(4, .bool false)]) (mem' := fun _ => []) (RunsTo.mk [] [4] [] (fun _ => []) (fun _ => by kernel_rfl) (fun _ => trivial)) ?_
    intro _
    have hy := Option.some.inj hm
    subst hy
    refine GS.ret (fn := Try.f31) [0] [.bool false] [] rfl Try.func31 (by kernel_rfl) trivial (fun w' hs => ?_)
    exact ⟨(), rfl, hs.turnedG (ks := []) rfl rfl (ownAllG rfl)⟩
  · replace hm := br_f h3 hm
    refine GS.skip ?_
    refine GS.seq ?_
    refine GS.seq ?_
    refine GS.region (env' := fun _ => [(0, .slice a0_o a0.length a0_c), (1, .slice a1_o a1.length a1_c), (12, .int .i64 ((a0.length : Nat) : Int)), (13, .int .i64 0)]) (mem' := fun _ => [(1, r47 a0_o a0), (2, r47 a1_o a1)]) (RunsTo.mk [] [0, 1, 12, 13] [1, 2] (fun _ => []) (fun _ => by kernel_rfl) (fun _ => trivial)) ?_
    intro _
    refine GS.block ?_
    refine GS.loop ?_
    refine grd_elim hm (fun g26 hm => ?_)
    refine GS.rekey (env' := [(0, .slice a0_o a0.length a0_c), (1, .slice a1_o a1.length a1_c), (12, .int .i64 ((a0.length : Nat) : Int)), (13, .int .i64 0)]) (mem' := [(1, r47 a0_o a0), (2, r47 a1_o a1)]) [0, 1, 12, 13] [(1, 1), (2, 2)] (by kernel_rfl) (by kernel_rfl) rfl ?_
    refine loopL_elim hm (fun st41 fn42 hst43 hfn44 hm => ?_)
    refine GS.loopInv (ι := List S_api_Last × Nat) (I := fun ⟨rs39, v13_1⟩ => a0.drop v13_1 = rs39 ∧ loopL st41 fn42 rs39 v13_1 () = some y) (μ := fun ⟨rs39, v13_1⟩ => rs39.length) (E := fun ⟨rs39, v13_1⟩ => [(0, .slice a0_o a0.length a0_c), (1, .slice a1_o a1.length a1_c), (12, .int .i64 ((a0.length : Nat) : Int)), (13, .int .i64 ((v13_1 : Nat) : Int))]) (M := fun ⟨rs39, v13_1⟩ => [(1, r47 a0_o a0), (2, r47 a1_o a1)]) ?_ ⟨a0, 0⟩ ⟨List.drop_zero .., hm⟩
    rintro ⟨rs39, v13_1⟩ ⟨hd25, hm⟩ ih40
    cases rs39 with
    | nil =>
      replace hm := (hfn44 _ _).symm.trans hm
      try dsimp only at hm
      refine GS.seq ?_
      refine GS.region (env' := fun _ => [(0, .slice a0_o a0.length a0_c), (1, .slice a1_o a1.length a1_c), (12, .int .i64 ((a0.length : Nat) : Int)), (13, .int .i64 ((v13_1 : Nat) : Int)), (14, .bool (decide (((v13_1 : Nat) : Int) < ((a0.length : Nat) : Int))))]) (mem' := fun _ => [(1, r47 a0_o a0), (2, r47 a1_o a1)]) (RunsTo.mk [] [0, 1, 12, 13, 14] [1, 2] (fun _ => []) (fun _ => by kernel_rfl) (fun _ => trivial)) ?_
      intro _
      refine GS.seq ?_
      refine GS.cond (t := decide (((v13_1 : Nat) : Int) < ((a0.length : Nat) : Int))) rfl rfl (fun h37 => absb h37 (drop_dec0 hd25)) (fun _ => ?_)
      refine GS.exit rfl ?_
      refine GS.seq ?_
      refine GS.region (env' := fun _ => [(4, .bool true)]) (mem' := fun _ => []) (RunsTo.mk [] [4] [] (fun _ => []) (fun _ => by kernel_rfl) (fun _ => trivial)) ?_
      intro _
      have hy := Option.some.inj hm
      subst hy
      refine GS.ret (fn := Try.f31) [0] [.bool true] [] rfl Try.func31 (by kernel_rfl) trivial (fun w' hs => ?_)
      exact ⟨(), rfl, hs.turnedG (ks := []) rfl rfl (ownAllG rfl)⟩
    | cons x27 rs39 =>
      replace hm := (hst43 _ _ _ _).symm.trans hm
      try dsimp only at hm
      refine GS.seq ?_
      refine GS.region (env' := fun _ => [(0, .slice a0_o a0.length a0_c), (1, .slice a1_o a1.length a1_c), (12, .int .i64 ((a0.length : Nat) : Int)), (13, .int .i64 ((v13_1 : Nat) : Int)), (14, .bool (decide (((v13_1 : Nat) : Int) < ((a0.length : Nat) : Int))))]) (mem' := fun _ => [(1, r47 a0_o a0), (2, r47 a1_o a1)]) (RunsTo.mk [] [0, 1, 12, 13, 14] [1, 2] (fun _ => []) (fun _ => by kernel_rfl) (fun _ => trivial)) ?_
      intro _
      refine GS.seq ?_
      refine GS.cond (t := decide (((v13_1 : Nat) : Int) < ((a0.length : Nat) : Int))) rfl rfl (fun _ => ?_) (fun h29 => absb (drop_dec hd25) h29)
      refine GS.skip ?_
      refine GS.seq ?_
      refine GS.block ?_
      refine GS.seq ?_
      refine GS.region (env' := fun _ => [(0, .slice a0_o a0.length a0_c), (1, .slice a1_o a1.length a1_c), (5, .int .i64 ((v13_1 : Nat) : Int)), (12, .int .i64 ((a0.length : Nat) : Int)), (13, .int .i64 ((v13_1 : Nat) : Int))]) (mem' := fun _ => [(1, r47 a0_o a0), (2, r47 a1_o a1)]) (RunsTo.mk [] [0, 1, 5, 12, 13] [1, 2] (fun _ => []) (fun _ => by kernel_rfl) (fun _ => trivial)) ?_
      intro _
      refine GS.seq ?_
      refine grd_elim hm (fun g32 hm => ?_)
      refine GS.region (env' := fun _ => [(0, .slice a0_o a0.length a0_c), (1, .slice a1_o a1.length a1_c), (12, .int .i64 ((a0.length : Nat) : Int)), (13, .int .i64 ((v13_1 : Nat) : Int)), (24, .bool (!(S_api_Last.beq x27 (a1.getD v13_1 dS_api_Last))))]) (mem' := fun _ => [(1, r47 a0_o a0), (2, r47 a1_o a1)]) (RunsTo.mkd [(2, { act := .idx 1 v13_1 }), (3, { act := .load 1 v13_1 0 [.int .i64 x27.Client, .int .i64 x27.Number, .int .i64 x27.Errno, .int .i64 x27.Version.Epoch, .int .i64 x27.Version.N] }), (6, { act := .idx 2 v13_1 }), (7, { act := .load 2 v13_1 0 [.int .i64 ((a1.getD v13_1 dS_api_Last).Client), .int .i64 ((a1.getD v13_1 dS_api_Last).Number), .int .i64 ((a1.getD v13_1 dS_api_Last).Errno), .int .i64 (((a1.getD v13_1 dS_api_Last).Version).Epoch), .int .i64 (((a1.getD v13_1 dS_api_Last).Version).N)] }), (8, { act := .eq })] [0, 1, 12, 13, 24] [1, 2] (fun _ => [a0_o = a0_o, a0.length = (List.map S_api_Last.row a0).length, (((v13_1 : Nat) : Int) : Int) = ((v13_1 : Nat) : Int), v13_1 < a0.length, blk a0_o = blk a0_o, offs a0_o + v13_1 * 5 = offs a0_o + (v13_1 * 5 + 0), (List.map S_api_Last.row a0)[v13_1]? = some [.int .i64 x27.Client, .int .i64 x27.Number, .int .i64 x27.Errno, .int .i64 x27.Version.Epoch, .int .i64 x27.Version.N], a1_o = a1_o, a1.length = (List.map S_api_Last.row a1).length, (((v13_1 : Nat) : Int) : Int) = ((v13_1 : Nat) : Int), v13_1 < a1.length, blk a1_o = blk a1_o, offs a1_o + v13_1 * 5 = offs a1_o + (v13_1 * 5 + 0), (List.map S_api_Last.row a1)[v13_1]? = some [.int .i64 ((a1.getD v13_1 dS_api_Last).Client), .int .i64 ((a1.getD v13_1 dS_api_Last).Number), .int .i64 ((a1.getD v13_1 dS_api_Last).Errno), .int .i64 (((a1.getD v13_1 dS_api_Last).Version).Epoch), .int .i64 (((a1.getD v13_1 dS_api_Last).Version).N)]]) (by kernel_rfl) (by kernel_rfl) (fun _ => by kernel_rfl) (fun _ => ⟨rfl, mlen S_api_Last.row a0, rfl, (drop_lt hd25), rfl, rfl, map_drop S_api_Last.row hd25, rfl, mlen S_api_Last.row a1, rfl, g32, rfl, rfl, map_at S_api_Last.row dS_api_Last g32, trivial⟩)) ?_
      intro _
      refine GS.cond (t := !(S_api_Last.beq x27 (a1.getD v13_1 dS_api_Last))) rfl rfl (fun h33 => ?_) (fun h33 => ?_)
      · replace hm := br_t h33 hm
        refine GS.seq ?_
        refine GS.region (env' := fun _ => [(4, .bool false)]) (mem' := fun _ => []) (RunsTo.mk [] [4] [] (fun _ => []) (fun _ => by kernel_rfl) (fun _ => trivial)) ?_
        intro _
        have hy := Option.some.inj hm
        subst hy
        refine GS.ret (fn := Try.f31) [0] [.bool false] [] rfl Try.func31 (by kernel_rfl) trivial (fun w' hs => ?_)
        exact ⟨(), rfl, hs.turnedG (ks := []) rfl rfl (ownAllG rfl)⟩
      · replace hm := br_f h33 hm
        refine GS.skip ?_
        refine GS.inBlock ?_
        refine GS.region (env' := fun _ => [(0, .slice a0_o a0.length a0_c), (1, .slice a1_o a1.length a1_c), (12, .int .i64 ((a0.length : Nat) : Int)), (13, .int .i64 ((v13_1 + 1 : Nat) : Int))]) (mem' := fun _ => [(1, r47 a0_o a0), (2, r47 a1_o a1)]) (RunsTo.mk [(0, { sp := some (.int .i64 ((v13_1 + 1 : Nat) : Int)) })] [0, 1, 12, 13] [1, 2] (fun _ => [((.int .i64 (IntKind.i64.wrap (((v13_1 : Nat) : Int) + 1))) : Value) = .int .i64 ((v13_1 + 1 : Nat) : Int)]) (fun _ => by kernel_rfl) (fun _ => ⟨natw (drop_lt hd25) g26, trivial⟩)) ?_
        intro _
        refine GS.inLoop ?_
        refine GS.rekey (env' := [(0, .slice a0_o a0.length a0_c), (1, .slice a1_o a1.length a1_c), (12, .int .i64 ((a0.length : Nat) : Int)), (13, .int .i64 ((v13_1 + 1 : Nat) : Int))]) (mem' := [(1, r47 a0_o a0), (2, r47 a1_o a1)]) [0, 1, 12, 13] [(1, 1), (2, 2)] (by kernel_rfl) (by kernel_rfl) rfl ?_
        exact ih40 ⟨rs39, v13_1 + 1⟩ ⟨drop_next hd25, hm⟩ (Nat.lt_succ_self _)

theorem w_slices_Equal___api_Item_api_Item_ (F : Nat) (a0_o : Option Addr) (a0_c : Nat) (a0 : List S_api_Item) (a1_o : Option Addr) (a1_c : Nat) (a1 : List S_api_Item) {y : Bool} (hm : m_slices_Equal___api_Item_api_Item_ F a0 a1 = some y) : CallG Try.prog 32 #[.slice a0_o a0.length a0_c, .slice a1_o a1.length a1_c] (X := Unit) (fun (_ : Unit) => .bool y) [] [r42 a0_o a0, r42 a1_o a1] (fun (_ : Unit) => []) := by
  intro w hg
  rw [m_slices_Equal___api_Item_api_Item_] at hm
  refine GS.start (S := mayT []) (mem := [(1, r42 a0_o a0), (2, r42 a1_o a1)]) Try.func32 rfl Try.ntmps32 (Nat.le_of_ble_eq_true rfl) (hg.start rfl) ?_
  refine GS.conv (env' := [(0, .slice a0_o a0.length a0_c), (1, .slice a1_o a1.length a1_c)]) rfl rfl ?_
  refine GS.seq ?_
  refine GS.region (env' := fun _ => [(0, .slice a0_o a0.length a0_c), (1, .slice a1_o a1.length a1_c)]) (mem' := fun _ => [(1, r42 a0_o a0), (2, r42 a1_o a1)]) (RunsTo.mk [] [0, 1] [1, 2] (fun _ => []) (fun _ => by kernel_rfl) (fun _ => trivial)) ?_
  intro _
  refine GS.seq ?_
  refine GS.seq ?_
  refine GS.region (env' := fun _ => [(0, .slice a0_o a0.length a0_c), (1, .slice a1_o a1.length a1_c), (10, .bool (((a0.length : Nat) : Int) != ((a1.length : Nat) : Int)))]) (mem' := fun _ => [(1, r42 a0_o a0), (2, r42 a1_o a1)]) (RunsTo.mk [] [0, 1, 10] [1, 2] (fun _ => []) (fun _ => by kernel_rfl) (fun _ => trivial)) ?_
  intro _
  refine GS.cond (t := ((a0.length : Nat) : Int) != ((a1.length : Nat) : Int)) rfl rfl (fun h3 => ?_) (fun h3 => ?_)
  · replace hm := br_t h3 hm
    refine GS.seq ?_
    refine GS.region (env' := fun _ => [(4, .bool false)]) (mem' := fun _ => []) (RunsTo.mk [] [4] [] (fun _ => []) (fun _ => by kernel_rfl) (fun _ => trivial)) ?_
    intro _
    have hy := Option.some.inj hm
    subst hy
    refine GS.ret (fn := Try.f32) [0] [.bool false] [] rfl Try.func32 (by kernel_rfl) trivial (fun w' hs => ?_)
    exact ⟨(), rfl, hs.turnedG (ks := []) rfl rfl (ownAllG rfl)⟩
  · replace hm := br_f h3 hm
    refine GS.skip ?_
    refine GS.seq ?_
    refine GS.seq ?_
    refine GS.region (env' := fun _ => [(0, .slice a0_o a0.length a0_c), (1, .slice a1_o a1.length a1_c), (12, .int .i64 ((a0.length : Nat) : Int)), (13, .int .i64 0)]) (mem' := fun _ => [(1, r42 a0_o a0), (2, r42 a1_o a1)]) (RunsTo.mk [] [0, 1, 12, 13] [1, 2] (fun _ => []) (fun _ => by kernel_rfl) (fun _ => trivial)) ?_
    intro _
    refine GS.block ?_
    refine GS.loop ?_
    refine grd_elim hm (fun g26 hm => ?_)
    refine GS.rekey (env' := [(0, .slice a0_o a0.length a0_c), (1, .slice a1_o a1.length a1_c), (12, .int .i64 ((a0.length : Nat) : Int)), (13, .int .i64 0)]) (mem' := [(1, r42 a0_o a0), (2, r42 a1_o a1)]) [0, 1, 12, 13] [(1, 1), (2, 2)] (by kernel_rfl) (by kernel_rfl) rfl ?_
    refine loopL_elim hm (fun st41 fn42 hst43 hfn44 hm => ?_)
    refine GS.loopInv (ι := List S_api_Item × Nat) (I := fun ⟨rs39, v13_1⟩ => a0.drop v13_1 = rs39 ∧ loopL st41 fn42 rs39 v13_1 () = some y) (μ := fun ⟨rs39, v13_1⟩ => rs39.length) (E := fun ⟨rs39, v13_1⟩ => [(0, .slice a0_o a0.length a0_c), (1, .slice a1_o a1.length a1_c), (12, .int .i64 ((a0.length : Nat) : Int)), (13, .int .i64 ((v13_1 : Nat) : Int))]) (M := fun ⟨rs39, v13_1⟩ => [(1, r42 a0_o a0), (2, r42 a1_o a1)]) ?_ ⟨a0, 0⟩ ⟨List.drop_zero .., hm⟩
    rintro ⟨rs39, v13_1⟩ ⟨hd25, hm⟩ ih40
    cases rs39 with
    | nil =>
      replace hm := (hfn44 _ _).symm.trans hm
      try dsimp only at hm
      refine GS.seq ?_
      refine GS.region (env' := fun _ => [(0, .slice a0_o a0.length a0_c), (1, .slice a1_o a1.length a1_c), (12, .int .i64 ((a0.length : Nat) : Int)), (13, .int .i64 ((v13_1 : Nat) : Int)), (14, .bool (decide (((v13_1 : Nat) : Int) < ((a0.length : Nat) : Int))))]) (mem' := fun _ => [(1, r42 a0_o a0), (2, r42 a1_o a1)]) (RunsTo.mk [] [0, 1, 12, 13, 14] [1, 2] (fun _ => []) (fun _ => by kernel_rfl) (fun _ => trivial)) ?_
      intro _
      refine GS.seq ?_
      refine GS.cond (t := decide (((v13_1 : Nat) : Int) < ((a0.length : Nat) : Int))) rfl rfl (fun h37 => absb h37 (drop_dec0 hd25)) (fun _ => ?_)
      refine GS.exit rfl ?_
      refine GS.seq ?_
      refine GS.region (env' := fun _ => [(4, .bool true)]) (mem' := fun _ => []) (RunsTo.mk [] [4] [] (fun _ => []) (fun _ => by kernel_rfl) (fun _ => trivial)) ?_
      intro _
      have hy := Option.some.inj hm
      subst hy
      refine GS.ret (fn := Try.f32) [0] [.bool true] [] rfl Try.func32 (by kernel_rfl) trivial (fun w' hs => ?_)
      exact ⟨(), rfl, hs.turnedG (ks := []) rfl rfl (ownAllG rfl)⟩
    | cons x27 rs39 =>
      replace hm := (hst43 _ _ _ _).symm.trans hm
      try dsimp only at hm
      refine GS.seq ?_
      refine GS.region (env' := fun _ => [(0, .slice a0_o a0.length a0_c), (1, .slice a1_o a1.length a1_c), (12, .int .i64 ((a0.length : Nat) : Int)), (13, .int .i64 ((v13_1 : Nat) : Int)), (14, .bool (decide (((v13_1 : Nat) : Int) < ((a0.length : Nat) : Int))))]) (mem' := fun _ => [(1, r42 a0_o a0), (2, r42 a1_o a1)]) (RunsTo.mk [] [0, 1, 12, 13, 14] [1, 2] (fun _ => []) (fun _ => by kernel_rfl) (fun _ => trivial)) ?_
      intro _
      refine GS.seq ?_
      refine GS.cond (t := decide (((v13_1 : Nat) : Int) < ((a0.length : Nat) : Int))) rfl rfl (fun _ => ?_) (fun h29 => absb (drop_dec hd25) h29)
      refine GS.skip ?_
      refine GS.seq ?_
      refine GS.block ?_
      refine GS.seq ?_
      refine GS.region (env' := fun _ => [(0, .slice a0_o a0.length a0_c), (1, .slice a1_o a1.length a1_c), (5, .int .i64 ((v13_1 : Nat) : Int)), (12, .int .i64 ((a0.length : Nat) : Int)), (13, .int .i64 ((v13_1 : Nat) : Int))]) (mem' := fun _ => [(1, r42 a0_o a0), (2, r42 a1_o a1)]) (RunsTo.mk [] [0, 1, 5, 12, 13] [1, 2] (fun _ => []) (fun _ => by kernel_rfl) (fun _ => trivial)) ?_
      intro _
      refine GS.seq ?_
      refine grd_elim hm (fun g32 hm => ?_)
      refine GS.region (env' := fun _ => [(0, .slice a0_o a0.length a0_c), (1, .slice a1_o a1.length a1_c), (12, .int .i64 ((a0.length : Nat) : Int)), (13, .int .i64 ((v13_1 : Nat) : Int)), (24, .bool (!(S_api_Item.beq x27 (a1.getD v13_1 dS_api_Item))))]) (mem' := fun _ => [(1, r42 a0_o a0), (2, r42 a1_o a1)]) (RunsTo.mkd [(2, { act := .idx 1 v13_1 }), (3, { act := .load 1 v13_1 0 [.string x27.Name, .int .i64 x27.Version.Epoch, .int .i64 x27.Version.N, .int .u32 x27.Crc] }), (6, { act := .idx 2 v13_1 }), (7, { act := .load 2 v13_1 0 [.string ((a1.getD v13_1 dS_api_Item).Name), .int .i64 (((a1.getD v13_1 dS_api_Item).Version).Epoch), .int .i64 (((a1.getD v13_1 dS_api_Item).Version).N), .int .u32 ((a1.getD v13_1 dS_api_Item).Crc)] }), (8, { act := .eq })] [0, 1, 12, 13, 24] [1, 2] (fun _ => [a0_o = a0_o, a0.length = (List.map S_api_Item.row a0).length, (((v13_1 : Nat) : Int) : Int) = ((v13_1 : Nat) : Int), v13_1 < a0.length, blk a0_o = blk a0_o, offs a0_o + v13_1 * 4 = offs a0_o + (v13_1 * 4 + 0), (List.map S_api_Item.row a0)[v13_1]? = some [.string x27.Name, .int .i64 x27.Version.Epoch, .int .i64 x27.Version.N, .int .u32 x27.Crc], a1_o = a1_o, a1.length = (List.map S_api_Item.row a1).length, (((v13_1 : Nat) : Int) : Int) = ((v13_1 : Nat) : Int), v13_1 < a1.length, blk a1_o = blk a1_o, offs a1_o + v13_1 * 4 = offs a1_o + (v13_1 * 4 + 0), (List.map S_api_Item.row a1)[v13_1]? = some [.string ((a1.getD v13_1 dS_api_Item).Name), .int .i64 (((a1.getD v13_1 dS_api_Item).Version).Epoch), .int .i64 (((a1.getD v13_1 dS_api_Item).Version).N), .int .u32 ((a1.getD v13_1 dS_api_Item).Crc)]]) (by kernel_rfl) (by kernel_rfl) (fun _ => by kernel_rfl) (fun _ => ⟨rfl, mlen S_api_Item.row a0, rfl, (drop_lt hd25), rfl, rfl, map_drop S_api_Item.row hd25, rfl, mlen S_api_Item.row a1, rfl, g32, rfl, rfl, map_at S_api_Item.row dS_api_Item g32, trivial⟩)) ?_
      intro _
      refine GS.cond (t := !(S_api_Item.beq x27 (a1.getD v13_1 dS_api_Item))) rfl rfl (fun h33 => ?_) (fun h33 => ?_)
      · replace hm := br_t h33 hm
        refine GS.seq ?_
        refine GS.region (env' := fun _ => [(4, .bool false)]) (mem' := fun _ => []) (RunsTo.mk [] [4] [] (fun _ => []) (fun _ => by kernel_rfl) (fun _ => trivial)) ?_
        intro _
        have hy := Option.some.inj hm
        subst hy
        refine GS.ret (fn := Try.f32) [0] [.bool false] [] rfl Try.func32 (by kernel_rfl) trivial (fun w' hs => ?_)
        exact ⟨(), rfl, hs.turnedG (ks := []) rfl rfl (ownAllG rfl)⟩
      · replace hm := br_f h33 hm
        refine GS.skip ?_
        refine GS.inBlock ?_
        refine GS.region (env' := fun _ => [(0, .slice a0_o a0.length a0_c), (1, .slice a1_o a1.length a1_c), (12, .int .i64 ((a0.length : Nat) : Int)), (13, .int .i64 ((v13_1 + 1 : Nat) : Int))]) (mem' := fun _ => [(1, r42 a0_o a0), (2, r42 a1_o a1)]) (RunsTo.mk [(0, { sp := some (.int .i64 ((v13_1 + 1 : Nat) : Int)) })] [0, 1, 12, 13] [1, 2] (fun _ => [((.int .i64 (IntKind.i64.wrap (((v13_1 : Nat) : Int) + 1))) : Value) = .int .i64 ((v13_1 + 1 : Nat) : Int)]) (fun _ => by kernel_rfl) (fun _ => ⟨natw (drop_lt hd25) g26, trivial⟩)) ?_
        intro _
        refine GS.inLoop ?_
        refine GS.rekey (env' := [(0, .slice a0_o a0.length a0_c), (1, .slice a1_o a1.length a1_c), (12, .int .i64 ((a0.length : Nat) : Int)), (13, .int .i64 ((v13_1 + 1 : Nat) : Int))]) (mem' := [(1, r42 a0_o a0), (2, r42 a1_o a1)]) [0, 1, 12, 13] [(1, 1), (2, 2)] (by kernel_rfl) (by kernel_rfl) rfl ?_
        exact ih40 ⟨rs39, v13_1 + 1⟩ ⟨drop_next hd25, hm⟩ (Nat.lt_succ_self _)

theorem w_pglog_Same (F : Nat) (a0_Les : Int) (a0_Tail : S_api_Version) (a0_Log_o : Option Addr) (a0_Log_c : Nat) (a0_Log : List S_api_Entry) (a0_Lasts_o : Option Addr) (a0_Lasts_c : Nat) (a0_Lasts : List S_api_Last) (a0_Items_o : Option Addr) (a0_Items_c : Nat) (a0_Items : List S_api_Item) (a1_Les : Int) (a1_Tail : S_api_Version) (a1_Log_o : Option Addr) (a1_Log_c : Nat) (a1_Log : List S_api_Entry) (a1_Lasts_o : Option Addr) (a1_Lasts_c : Nat) (a1_Lasts : List S_api_Last) (a1_Items_o : Option Addr) (a1_Items_c : Nat) (a1_Items : List S_api_Item) {y : Bool} (hm : m_pglog_Same F a0_Les a0_Tail a0_Log a0_Lasts a0_Items a1_Les a1_Tail a1_Log a1_Lasts a1_Items = some y) : CallG Try.prog 9 #[.agg #[.int .i64 a0_Les, .int .i64 a0_Tail.Epoch, .int .i64 a0_Tail.N, .slice a0_Log_o a0_Log.length a0_Log_c, .slice a0_Lasts_o a0_Lasts.length a0_Lasts_c, .slice a0_Items_o a0_Items.length a0_Items_c], .agg #[.int .i64 a1_Les, .int .i64 a1_Tail.Epoch, .int .i64 a1_Tail.N, .slice a1_Log_o a1_Log.length a1_Log_c, .slice a1_Lasts_o a1_Lasts.length a1_Lasts_c, .slice a1_Items_o a1_Items.length a1_Items_c]] (X := Unit) (fun (_ : Unit) => .bool y) [] [r52 a0_Log_o a0_Log, r47 a0_Lasts_o a0_Lasts, r42 a0_Items_o a0_Items, r52 a1_Log_o a1_Log, r47 a1_Lasts_o a1_Lasts, r42 a1_Items_o a1_Items] (fun (_ : Unit) => []) := by
  intro w hg
  rw [m_pglog_Same] at hm
  refine GS.start (S := mayT []) (mem := [(1, r52 a0_Log_o a0_Log), (2, r47 a0_Lasts_o a0_Lasts), (3, r42 a0_Items_o a0_Items), (4, r52 a1_Log_o a1_Log), (5, r47 a1_Lasts_o a1_Lasts), (6, r42 a1_Items_o a1_Items)]) Try.func9 rfl Try.ntmps9 (Nat.le_of_ble_eq_true rfl) (hg.start rfl) ?_
  refine GS.conv (env' := [(0, .agg #[.int .i64 a0_Les, .int .i64 a0_Tail.Epoch, .int .i64 a0_Tail.N, .slice a0_Log_o a0_Log.length a0_Log_c, .slice a0_Lasts_o a0_Lasts.length a0_Lasts_c, .slice a0_Items_o a0_Items.length a0_Items_c]), (1, .agg #[.int .i64 a1_Les, .int .i64 a1_Tail.Epoch, .int .i64 a1_Tail.N, .slice a1_Log_o a1_Log.length a1_Log_c, .slice a1_Lasts_o a1_Lasts.length a1_Lasts_c, .slice a1_Items_o a1_Items.length a1_Items_c])]) rfl rfl ?_
  refine GS.seq ?_
  refine GS.region (env' := fun fr1 => [(2, .pointer (some ⟨(fr1 0).x, 0, none⟩)), (3, .pointer (some ⟨(fr1 1).x, 0, none⟩))]) (mem' := fun fr1 => [(1, r52 a0_Log_o a0_Log), (2, r47 a0_Lasts_o a0_Lasts), (3, r42 a0_Items_o a0_Items), (4, r52 a1_Log_o a1_Log), (5, r47 a1_Lasts_o a1_Lasts), (6, r42 a1_Items_o a1_Items), (7, .cells ((fr1 0).x) 28 [.int .i64 a0_Les, .int .i64 a0_Tail.Epoch, .int .i64 a0_Tail.N, .slice a0_Log_o a0_Log.length a0_Log_c, .slice a0_Lasts_o a0_Lasts.length a0_Lasts_c, .slice a0_Items_o a0_Items.length a0_Items_c]), (8, .cells ((fr1 1).x) 28 [.int .i64 a1_Les, .int .i64 a1_Tail.Epoch, .int .i64 a1_Tail.N, .slice a1_Log_o a1_Log.length a1_Log_c, .slice a1_Lasts_o a1_Lasts.length a1_Lasts_c, .slice a1_Items_o a1_Items.length a1_Items_c])]) (RunsTo.mk [(0, { act := .new .var, key := some 7 }), (1, { act := .new .var, key := some 8 })] [2, 3] [1, 2, 3, 4, 5, 6, 7, 8] (fun fr1 => []) (fun fr1 => by kernel_rfl) (fun fr1 => trivial)) ?_
  intro fr1
  refine GS.seq ?_
  refine br_elim hm (fun h3 hm => ?_) (fun h3 hm => ?_)
  · skip
    refine br_elim hm (fun h4 hm => ?_) (fun h4 hm => ?_)
    · skip
      refine bnd_elim hm (fun y5 e6 hm => ?_)
      refine br_elim hm (fun h7 hm => ?_) (fun h7 hm => ?_)
      · skip
        refine bnd_elim hm (fun y8 e9 hm => ?_)
        refine br_elim hm (fun h10 hm => ?_) (fun h10 hm => ?_)
        · skip
          refine bnd_elim hm (fun y11 e12 hm => ?_)
          refine GS.region (env' := fun _ => [(4, .bool y11)]) (mem' := fun _ => []) (RunsTo.mk [(1, { act := .load 7 0 0 [] }), (3, { act := .load 8 0 0 [] }), (5, { sp := some (.bool true) }), (7, { act := .load 7 0 0 [] }), (9, { act := .load 8 0 0 [] }), (10, { act := .eq }), (12, { sp := some (.bool true) }), (14, { act := .load 7 0 0 [] }), (16, { act := .load 8 0 0 [] }), (17, { act := .call [1, 4] (.bool y5) }), (19, { sp := some (.bool true) }), (21, { act := .load 7 0 0 [] }), (23, { act := .load 8 0 0 [] }), (24, { act := .call [2, 5] (.bool y8) }), (26, { sp := some (.bool true) }), (28, { act := .load 7 0 0 [] }), (30, { act := .load 8 0 0 [] }), (31, { act := .call [3, 6] (.bool y11) })] [4] [] (fun _ => [(fr1 0).x = (fr1 0).x, (fr1 1).x = (fr1 1).x, ((.bool (a0_Les == a1_Les)) : Value) = .bool true, (fr1 0).x = (fr1 0).x, (fr1 1).x = (fr1 1).x, ((.bool (S_api_Version.beq a0_Tail a1_Tail)) : Value) = .bool true, (fr1 0).x = (fr1 0).x, (fr1 1).x = (fr1 1).x, CallOK Try.prog 30 #[.slice a0_Log_o a0_Log.length a0_Log_c, .slice a1_Log_o a1_Log.length a1_Log_c] (.bool y5) [some (r52 a0_Log_o a0_Log), some (r52 a1_Log_o a1_Log)], ((.bool y5) : Value) = .bool true, (fr1 0).x = (fr1 0).x, (fr1 1).x = (fr1 1).x, CallOK Try.prog 31 #[.slice a0_Lasts_o a0_Lasts.length a0_Lasts_c, .slice a1_Lasts_o a1_Lasts.length a1_Lasts_c] (.bool y8) [some (r47 a0_Lasts_o a0_Lasts), some (r47 a1_Lasts_o a1_Lasts)], ((.bool y8) : Value) = .bool true, (fr1 0).x = (fr1 0).x, (fr1 1).x = (fr1 1).x, CallOK Try.prog 32 #[.slice a0_Items_o a0_Items.length a0_Items_c, .slice a1_Items_o a1_Items.length a1_Items_c] (.bool y11) [some (r42 a0_Items_o a0_Items), some (r42 a1_Items_o a1_Items)]]) (fun _ => by kernel_rfl) (fun _ => ⟨rfl, rfl, bool_eq h3, rfl, rfl, bool_eq h4, rfl, rfl, (w_slices_Equal___api_Entry_api_Entry_ F a0_Log_o a0_Log_c a0_Log a1_Log_o a1_Log_c a1_Log e6).ok ⟨(.inl ⟨r52 a0_Log_o a0_Log, .head _, Cov.refl _⟩), (.inl ⟨r52 a1_Log_o a1_Log, (.tail _ (.head _)), Cov.refl _⟩), trivial⟩, bool_eq h7, rfl, rfl, (w_slices_Equal___api_Last_api_Last_ F a0_Lasts_o a0_Lasts_c a0_Lasts a1_Lasts_o a1_Lasts_c a1_Lasts e9).ok ⟨(.inl ⟨r47 a0_Lasts_o a0_Lasts, .head _, Cov.refl _⟩), (.inl ⟨r47 a1_Lasts_o a1_Lasts, (.tail _ (.head _)), Cov.refl _⟩), trivial⟩, bool_eq h10, rfl, rfl, (w_slices_Equal___api_Item_api_Item_ F a0_Items_o a0_Items_c a0_Items a1_Items_o a1_Items_c a1_Items e12).ok ⟨(.inl ⟨r42 a0_Items_o a0_Items, .head _, Cov.refl _⟩), (.inl ⟨r42 a1_Items_o a1_Items, (.tail _ (.head _)), Cov.refl _⟩), trivial⟩, trivial⟩)) ?_
          intro _
          have hy := Option.some.inj hm
          subst hy
          refine GS.ret (fn := Try.f9) [0] [.bool y11] [] rfl Try.func9 (by kernel_rfl) trivial (fun w' hs => ?_)
          exact ⟨(), rfl, hs.turnedG (ks := []) rfl rfl (ownAllG rfl)⟩
        · skip
          refine GS.region (env' := fun _ => [(4, .bool false)]) (mem' := fun _ => []) (RunsTo.mk [(1, { act := .load 7 0 0 [] }), (3, { act := .load 8 0 0 [] }), (5, { sp := some (.bool true) }), (7, { act := .load 7 0 0 [] }), (9, { act := .load 8 0 0 [] }), (10, { act := .eq }), (12, { sp := some (.bool true) }), (14, { act := .load 7 0 0 [] }), (16, { act := .load 8 0 0 [] }), (17, { act := .call [1, 4] (.bool y5) }), (19, { sp := some (.bool true) }), (21, { act := .load 7 0 0 [] }), (23, { act := .load 8 0 0 [] }), (24, { act := .call [2, 5] (.bool y8) }), (26, { sp := some (.bool false) })] [4] [] (fun _ => [(fr1 0).x = (fr1 0).x, (fr1 1).x = (fr1 1).x, ((.bool (a0_Les == a1_Les)) : Value) = .bool true, (fr1 0).x = (fr1 0).x, (fr1 1).x = (fr1 1).x, ((.bool (S_api_Version.beq a0_Tail a1_Tail)) : Value) = .bool true, (fr1 0).x = (fr1 0).x, (fr1 1).x = (fr1 1).x, CallOK Try.prog 30 #[.slice a0_Log_o a0_Log.length a0_Log_c, .slice a1_Log_o a1_Log.length a1_Log_c] (.bool y5) [some (r52 a0_Log_o a0_Log), some (r52 a1_Log_o a1_Log)], ((.bool y5) : Value) = .bool true, (fr1 0).x = (fr1 0).x, (fr1 1).x = (fr1 1).x, CallOK Try.prog 31 #[.slice a0_Lasts_o a0_Lasts.length a0_Lasts_c, .slice a1_Lasts_o a1_Lasts.length a1_Lasts_c] (.bool y8) [some (r47 a0_Lasts_o a0_Lasts), some (r47 a1_Lasts_o a1_Lasts)], ((.bool y8) : Value) = .bool false]) (fun _ => by kernel_rfl) (fun _ => ⟨rfl, rfl, bool_eq h3, rfl, rfl, bool_eq h4, rfl, rfl, (w_slices_Equal___api_Entry_api_Entry_ F a0_Log_o a0_Log_c a0_Log a1_Log_o a1_Log_c a1_Log e6).ok ⟨(.inl ⟨r52 a0_Log_o a0_Log, .head _, Cov.refl _⟩), (.inl ⟨r52 a1_Log_o a1_Log, (.tail _ (.head _)), Cov.refl _⟩), trivial⟩, bool_eq h7, rfl, rfl, (w_slices_Equal___api_Last_api_Last_ F a0_Lasts_o a0_Lasts_c a0_Lasts a1_Lasts_o a1_Lasts_c a1_Lasts e9).ok ⟨(.inl ⟨r47 a0_Lasts_o a0_Lasts, .head _, Cov.refl _⟩), (.inl ⟨r47 a1_Lasts_o a1_Lasts, (.tail _ (.head _)), Cov.refl _⟩), trivial⟩, bool_eq h10, trivial⟩)) ?_
          intro _
          have hy := Option.some.inj hm
          subst hy
          refine GS.ret (fn := Try.f9) [0] [.bool false] [] rfl Try.func9 (by kernel_rfl) trivial (fun w' hs => ?_)
          exact ⟨(), rfl, hs.turnedG (ks := []) rfl rfl (ownAllG rfl)⟩
      · skip
        refine GS.region (env' := fun _ => [(4, .bool false)]) (mem' := fun _ => []) (RunsTo.mk [(1, { act := .load 7 0 0 [] }), (3, { act := .load 8 0 0 [] }), (5, { sp := some (.bool true) }), (7, { act := .load 7 0 0 [] }), (9, { act := .load 8 0 0 [] }), (10, { act := .eq }), (12, { sp := some (.bool true) }), (14, { act := .load 7 0 0 [] }), (16, { act := .load 8 0 0 [] }), (17, { act := .call [1, 4] (.bool y5) }), (19, { sp := some (.bool false) })] [4] [] (fun _ => [(fr1 0).x = (fr1 0).x, (fr1 1).x = (fr1 1).x, ((.bool (a0_Les == a1_Les)) : Value) = .bool true, (fr1 0).x = (fr1 0).x, (fr1 1).x = (fr1 1).x, ((.bool (S_api_Version.beq a0_Tail a1_Tail)) : Value) = .bool true, (fr1 0).x = (fr1 0).x, (fr1 1).x = (fr1 1).x, CallOK Try.prog 30 #[.slice a0_Log_o a0_Log.length a0_Log_c, .slice a1_Log_o a1_Log.length a1_Log_c] (.bool y5) [some (r52 a0_Log_o a0_Log), some (r52 a1_Log_o a1_Log)], ((.bool y5) : Value) = .bool false]) (fun _ => by kernel_rfl) (fun _ => ⟨rfl, rfl, bool_eq h3, rfl, rfl, bool_eq h4, rfl, rfl, (w_slices_Equal___api_Entry_api_Entry_ F a0_Log_o a0_Log_c a0_Log a1_Log_o a1_Log_c a1_Log e6).ok ⟨(.inl ⟨r52 a0_Log_o a0_Log, .head _, Cov.refl _⟩), (.inl ⟨r52 a1_Log_o a1_Log, (.tail _ (.head _)), Cov.refl _⟩), trivial⟩, bool_eq h7, trivial⟩)) ?_
        intro _
        have hy := Option.some.inj hm
        subst hy
        refine GS.ret (fn := Try.f9) [0] [.bool false] [] rfl Try.func9 (by kernel_rfl) trivial (fun w' hs => ?_)
        exact ⟨(), rfl, hs.turnedG (ks := []) rfl rfl (ownAllG rfl)⟩
    · skip
      refine GS.region (env' := fun _ => [(4, .bool false)]) (mem' := fun _ => []) (RunsTo.mk [(1, { act := .load 7 0 0 [] }), (3, { act := .load 8 0 0 [] }), (5, { sp := some (.bool true) }), (7, { act := .load 7 0 0 [] }), (9, { act := .load 8 0 0 [] }), (10, { act := .eq }), (12, { sp := some (.bool false) })] [4] [] (fun _ => [(fr1 0).x = (fr1 0).x, (fr1 1).x = (fr1 1).x, ((.bool (a0_Les == a1_Les)) : Value) = .bool true, (fr1 0).x = (fr1 0).x, (fr1 1).x = (fr1 1).x, ((.bool (S_api_Version.beq a0_Tail a1_Tail)) : Value) = .bool false]) (fun _ => by kernel_rfl) (fun _ => ⟨rfl, rfl, bool_eq h3, rfl, rfl, bool_eq h4, trivial⟩)) ?_
      intro _
      have hy := Option.some.inj hm
      subst hy
      refine GS.ret (fn := Try.f9) [0] [.bool false] [] rfl Try.func9 (by kernel_rfl) trivial (fun w' hs => ?_)
      exact ⟨(), rfl, hs.turnedG (ks := []) rfl rfl (ownAllG rfl)⟩
  · skip
    refine GS.region (env' := fun _ => [(4, .bool false)]) (mem' := fun _ => []) (RunsTo.mk [(1, { act := .load 7 0 0 [] }), (3, { act := .load 8 0 0 [] }), (5, { sp := some (.bool false) })] [4] [] (fun _ => [(fr1 0).x = (fr1 0).x, (fr1 1).x = (fr1 1).x, ((.bool (a0_Les == a1_Les)) : Value) = .bool false]) (fun _ => by kernel_rfl) (fun _ => ⟨rfl, rfl, bool_eq h3, trivial⟩)) ?_
    intro _
    have hy := Option.some.inj hm
    subst hy
    refine GS.ret (fn := Try.f9) [0] [.bool false] [] rfl Try.func9 (by kernel_rfl) trivial (fun w' hs => ?_)
    exact ⟨(), rfl, hs.turnedG (ks := []) rfl rfl (ownAllG rfl)⟩

end Go.Proofs.Ytmoaiokgbjkaaaa
