/-
  CHAPTER 24s: the functions do what their models say (2).
-/
import Derived.Test.YtfdojammchbboaaDoorM24s
import Derived.Test.YtfdojammchbboaaDoorW24sa
set_option linter.unusedVariables false
set_option linter.unusedSimpArgs false
set_option maxRecDepth 100000
namespace Go.Proofs.YtfdojammchbboaaDoor
open Go Go.RowKit Sx

theorem w_stripe_Extents (F : Nat) (a0 : S_stripe_Layout) (a1 : Int) (a2 : Int) {y : List S_stripe_Extent} (hm : m_stripe_Extents F a0 a1 a2 = some y) : CallG Tryd.prog 21 #[.agg #[.int .i64 a0.Unit, .int .i64 a0.Count, .int .i64 a0.Size], .int .i64 a1, .int .i64 a2] (X := Option Addr × Nat) (fun ⟨x0, x1⟩ => .slice x0 y.length x1) [] [] (fun ⟨x0, x1⟩ => [o44 x0 x1 y]) := by
  intro w hg
  rw [m_stripe_Extents] at hm
  refine GS.start (S := mayT [] []) (mem := []) Tryd.func21 rfl Tryd.ntmps21 (Nat.le_of_ble_eq_true rfl) (hg.start rfl) ?_
  refine GS.conv (env' := [(0, .agg #[.int .i64 a0.Unit, .int .i64 a0.Count, .int .i64 a0.Size]), (1, .int .i64 a1), (2, .int .i64 a2)]) rfl rfl ?_
  refine GS.seq ?_
  refine GS.region (env' := fun fr1 => [(1, .int .i64 a1), (2, .int .i64 a2), (3, .pointer (some ⟨(fr1 0).x, 0, none⟩))]) (mem' := fun fr1 => [(1, .cells ((fr1 0).x) 23 [.int .i64 a0.Unit, .int .i64 a0.Count, .int .i64 a0.Size])]) (RunsTo.mk [(0, { act := .new .var, key := some 1 })] [1, 2, 3] [1] (fun fr1 => []) (fun fr1 => by kernel_rfl) (fun fr1 => trivial)) ?_
  intro fr1
  refine GS.seq ?_
  refine GS.seq ?_
  refine jn_elim hm (fun J10 hJ12 hm => ?_)
  refine GS.cut (ι := Bool) (I := fun (v33_1 : Bool) => J10 v33_1 = some y) (E := fun (v33_1 : Bool) => [(1, .int .i64 a1), (2, .int .i64 a2), (3, .pointer (some ⟨(fr1 0).x, 0, none⟩)), (33, .bool v33_1)]) (M := fun (v33_1 : Bool) => [(1, .cells ((fr1 0).x) 23 [.int .i64 a0.Unit, .int .i64 a0.Count, .int .i64 a0.Size])]) ?_ ?_
  rotate_left
  · intro H11
    refine bnd_elim hm (fun y3 e4 hm => ?_)
    refine br_elim hm (fun h5 hm => ?_) (fun h5 hm => ?_)
    · skip
      refine GS.region (env' := fun _ => [(1, .int .i64 a1), (2, .int .i64 a2), (3, .pointer (some ⟨(fr1 0).x, 0, none⟩)), (33, .bool true)]) (mem' := fun _ => [(1, .cells ((fr1 0).x) 23 [.int .i64 a0.Unit, .int .i64 a0.Count, .int .i64 a0.Size])]) (RunsTo.mk [(0, { act := .load 1 0 0 [] }), (1, { act := .call [] (.bool y3) }), (3, { sp := some (.bool true) })] [1, 2, 3, 33] [1] (fun _ => [(fr1 0).x = (fr1 0).x, CallOK Tryd.prog 12 #[.agg #[.int .i64 a0.Unit, .int .i64 a0.Count, .int .i64 a0.Size]] (.bool y3) [], ((.bool (!y3)) : Value) = .bool true]) (fun _ => by kernel_rfl) (fun _ => ⟨rfl, (w_stripe_Good F a0 e4).ok trivial, bool_eq h5, trivial⟩)) ?_
      intro _
      refine GS.rekey (env' := [(1, .int .i64 a1), (2, .int .i64 a2), (3, .pointer (some ⟨(fr1 0).x, 0, none⟩)), (33, .bool true)]) (mem' := [(1, .cells ((fr1 0).x) 23 [.int .i64 a0.Unit, .int .i64 a0.Count, .int .i64 a0.Size])]) [1, 2, 3, 33] [(1, 1)] (by kernel_rfl) (by kernel_rfl) rfl ?_
      exact H11 true hm
    · skip
      refine br_elim hm (fun h6 hm => ?_) (fun h6 hm => ?_)
      · skip
        refine GS.region (env' := fun _ => [(1, .int .i64 a1), (2, .int .i64 a2), (3, .pointer (some ⟨(fr1 0).x, 0, none⟩)), (33, .bool true)]) (mem' := fun _ => [(1, .cells ((fr1 0).x) 23 [.int .i64 a0.Unit, .int .i64 a0.Count, .int .i64 a0.Size])]) (RunsTo.mk [(0, { act := .load 1 0 0 [] }), (1, { act := .call [] (.bool y3) }), (3, { sp := some (.bool false) }), (7, { sp := some (.bool true) })] [1, 2, 3, 33] [1] (fun _ => [(fr1 0).x = (fr1 0).x, CallOK Tryd.prog 12 #[.agg #[.int .i64 a0.Unit, .int .i64 a0.Count, .int .i64 a0.Size]] (.bool y3) [], ((.bool (!y3)) : Value) = .bool false, ((.bool (decide (a1 < 0))) : Value) = .bool true]) (fun _ => by kernel_rfl) (fun _ => ⟨rfl, (w_stripe_Good F a0 e4).ok trivial, bool_eq h5, bool_eq h6, trivial⟩)) ?_
        intro _
        refine GS.rekey (env' := [(1, .int .i64 a1), (2, .int .i64 a2), (3, .pointer (some ⟨(fr1 0).x, 0, none⟩)), (33, .bool true)]) (mem' := [(1, .cells ((fr1 0).x) 23 [.int .i64 a0.Unit, .int .i64 a0.Count, .int .i64 a0.Size])]) [1, 2, 3, 33] [(1, 1)] (by kernel_rfl) (by kernel_rfl) rfl ?_
        exact H11 true hm
      · skip
        refine br_elim hm (fun h7 hm => ?_) (fun h7 hm => ?_)
        · skip
          refine GS.region (env' := fun _ => [(1, .int .i64 a1), (2, .int .i64 a2), (3, .pointer (some ⟨(fr1 0).x, 0, none⟩)), (33, .bool true)]) (mem' := fun _ => [(1, .cells ((fr1 0).x) 23 [.int .i64 a0.Unit, .int .i64 a0.Count, .int .i64 a0.Size])]) (RunsTo.mk [(0, { act := .load 1 0 0 [] }), (1, { act := .call [] (.bool y3) }), (3, { sp := some (.bool false) }), (7, { sp := some (.bool false) }), (11, { sp := some (.bool true) })] [1, 2, 3, 33] [1] (fun _ => [(fr1 0).x = (fr1 0).x, CallOK Tryd.prog 12 #[.agg #[.int .i64 a0.Unit, .int .i64 a0.Count, .int .i64 a0.Size]] (.bool y3) [], ((.bool (!y3)) : Value) = .bool false, ((.bool (decide (a1 < 0))) : Value) = .bool false, ((.bool (decide (a2 < 0))) : Value) = .bool true]) (fun _ => by kernel_rfl) (fun _ => ⟨rfl, (w_stripe_Good F a0 e4).ok trivial, bool_eq h5, bool_eq h6, bool_eq h7, trivial⟩)) ?_
          intro _
          refine GS.rekey (env' := [(1, .int .i64 a1), (2, .int .i64 a2), (3, .pointer (some ⟨(fr1 0).x, 0, none⟩)), (33, .bool true)]) (mem' := [(1, .cells ((fr1 0).x) 23 [.int .i64 a0.Unit, .int .i64 a0.Count, .int .i64 a0.Size])]) [1, 2, 3, 33] [(1, 1)] (by kernel_rfl) (by kernel_rfl) rfl ?_
          exact H11 true hm
        · skip
          refine br_elim hm (fun h8 hm => ?_) (fun h8 hm => ?_)
          · skip
            refine GS.region (env' := fun _ => [(1, .int .i64 a1), (2, .int .i64 a2), (3, .pointer (some ⟨(fr1 0).x, 0, none⟩)), (33, .bool true)]) (mem' := fun _ => [(1, .cells ((fr1 0).x) 23 [.int .i64 a0.Unit, .int .i64 a0.Count, .int .i64 a0.Size])]) (RunsTo.mk [(0, { act := .load 1 0 0 [] }), (1, { act := .call [] (.bool y3) }), (3, { sp := some (.bool false) }), (7, { sp := some (.bool false) }), (11, { sp := some (.bool false) }), (15, { sp := some (.bool true) })] [1, 2, 3, 33] [1] (fun _ => [(fr1 0).x = (fr1 0).x, CallOK Tryd.prog 12 #[.agg #[.int .i64 a0.Unit, .int .i64 a0.Count, .int .i64 a0.Size]] (.bool y3) [], ((.bool (!y3)) : Value) = .bool false, ((.bool (decide (a1 < 0))) : Value) = .bool false, ((.bool (decide (a2 < 0))) : Value) = .bool false, ((.bool (decide (a1 > 65536))) : Value) = .bool true]) (fun _ => by kernel_rfl) (fun _ => ⟨rfl, (w_stripe_Good F a0 e4).ok trivial, bool_eq h5, bool_eq h6, bool_eq h7, bool_eq h8, trivial⟩)) ?_
            intro _
            refine GS.rekey (env' := [(1, .int .i64 a1), (2, .int .i64 a2), (3, .pointer (some ⟨(fr1 0).x, 0, none⟩)), (33, .bool true)]) (mem' := [(1, .cells ((fr1 0).x) 23 [.int .i64 a0.Unit, .int .i64 a0.Count, .int .i64 a0.Size])]) [1, 2, 3, 33] [(1, 1)] (by kernel_rfl) (by kernel_rfl) rfl ?_
            exact H11 true hm
          · skip
            refine grd_elim hm (fun g9 hm => ?_)
            refine GS.region (env' := fun _ => [(1, .int .i64 a1), (2, .int .i64 a2), (3, .pointer (some ⟨(fr1 0).x, 0, none⟩)), (33, .bool (decide (a2 > (65536 - a1))))]) (mem' := fun _ => [(1, .cells ((fr1 0).x) 23 [.int .i64 a0.Unit, .int .i64 a0.Count, .int .i64 a0.Size])]) (RunsTo.mk [(0, { act := .load 1 0 0 [] }), (1, { act := .call [] (.bool y3) }), (3, { sp := some (.bool false) }), (7, { sp := some (.bool false) }), (11, { sp := some (.bool false) }), (15, { sp := some (.bool false) }), (18, { sp := some (.int .i64 (65536 - a1)) })] [1, 2, 3, 33] [1] (fun _ => [(fr1 0).x = (fr1 0).x, CallOK Tryd.prog 12 #[.agg #[.int .i64 a0.Unit, .int .i64 a0.Count, .int .i64 a0.Size]] (.bool y3) [], ((.bool (!y3)) : Value) = .bool false, ((.bool (decide (a1 < 0))) : Value) = .bool false, ((.bool (decide (a2 < 0))) : Value) = .bool false, ((.bool (decide (a1 > 65536))) : Value) = .bool false, ((.int .i64 (IntKind.i64.wrap (65536 - a1))) : Value) = .int .i64 (65536 - a1)]) (fun _ => by kernel_rfl) (fun _ => ⟨rfl, (w_stripe_Good F a0 e4).ok trivial, bool_eq h5, bool_eq h6, bool_eq h7, bool_eq h8, I64.w g9, trivial⟩)) ?_
            intro _
            refine GS.rekey (env' := [(1, .int .i64 a1), (2, .int .i64 a2), (3, .pointer (some ⟨(fr1 0).x, 0, none⟩)), (33, .bool (decide (a2 > (65536 - a1))))]) (mem' := [(1, .cells ((fr1 0).x) 23 [.int .i64 a0.Unit, .int .i64 a0.Count, .int .i64 a0.Size])]) [1, 2, 3, 33] [(1, 1)] (by kernel_rfl) (by kernel_rfl) rfl ?_
            exact H11 (decide (a2 > (65536 - a1))) hm
  · rintro v33_1 hm
    replace hm := (hJ12 _).symm.trans hm
    try dsimp only at hm
    refine GS.cond (t := v33_1) rfl rfl (fun h13 => ?_) (fun h13 => ?_)
    · replace hm := br_t h13 hm
      refine GS.seq ?_
      refine GS.region (env' := fun _ => [(6, .slice none 0 0)]) (mem' := fun _ => []) (RunsTo.mk [] [6] [] (fun _ => []) (fun _ => by kernel_rfl) (fun _ => trivial)) ?_
      intro _
      refine GS.setMem (mem' := [(2, o44 none 0 ([] : List S_stripe_Extent))]) (fun w hw => Sat.addNil hw rfl) ?_
      have hy := Option.some.inj hm
      subst hy
      refine GS.ret (fn := Tryd.f21) [0] [.slice none 0 0] [] rfl Tryd.func21 (by kernel_rfl) trivial (fun w' hs => ?_)
      exact ⟨⟨none, 0⟩, rfl, hs.turnedG (ks := [2]) rfl rfl⟩
    · replace hm := br_f h13 hm
      refine GS.skip ?_
      refine GS.seq ?_
      refine GS.region (env' := fun _ => [(1, .int .i64 a1), (2, .int .i64 a2), (3, .pointer (some ⟨(fr1 0).x, 0, none⟩)), (7, .slice none 0 0)]) (mem' := fun _ => [(1, .cells ((fr1 0).x) 23 [.int .i64 a0.Unit, .int .i64 a0.Count, .int .i64 a0.Size])]) (RunsTo.mk [] [1, 2, 3, 7] [1] (fun _ => []) (fun _ => by kernel_rfl) (fun _ => trivial)) ?_
      intro _
      refine GS.seq ?_
      refine GS.seq ?_
      refine grd_elim hm (fun g17 hm => ?_)
      refine GS.region (env' := fun _ => [(1, .int .i64 a1), (3, .pointer (some ⟨(fr1 0).x, 0, none⟩)), (7, .slice none 0 0), (8, .int .i64 (a1 + a2))]) (mem' := fun _ => [(1, .cells ((fr1 0).x) 23 [.int .i64 a0.Unit, .int .i64 a0.Count, .int .i64 a0.Size])]) (RunsTo.mk [(2, { sp := some (.int .i64 (a1 + a2)) })] [1, 3, 7, 8] [1] (fun _ => [((.int .i64 (IntKind.i64.wrap (a1 + a2))) : Value) = .int .i64 (a1 + a2)]) (fun _ => by kernel_rfl) (fun _ => ⟨I64.w g17, trivial⟩)) ?_
      intro _
      refine GS.block ?_
      refine GS.loop ?_
      refine GS.setMem (mem' := [(1, .cells ((fr1 0).x) 23 [.int .i64 a0.Unit, .int .i64 a0.Count, .int .i64 a0.Size]), (20001, o44 none 0 ([] : List S_stripe_Extent))]) (fun w hw => Sat.addNil hw rfl) ?_
      refine GS.rekey (env' := [(1, .int .i64 a1), (3, .pointer (some ⟨(fr1 0).x, 0, none⟩)), (7, .slice none 0 0), (8, .int .i64 (a1 + a2))]) (mem' := [(1, .cells ((fr1 0).x) 23 [.int .i64 a0.Unit, .int .i64 a0.Count, .int .i64 a0.Size]), (20000, o44 none 0 ([] : List S_stripe_Extent))]) [1, 3, 7, 8] [(1, 1), (20000, 20001)] (by kernel_rfl) (by kernel_rfl) rfl ?_
      refine loopW_elim hm (fun st91 hst93 hm => ?_)
      refine GS.loopInv (ι := Nat × Int × List S_stripe_Extent × Option Addr × Nat) (I := fun ⟨rs89, v1_2, l20000_2, o20000_2, k20000_2⟩ => loopW st91 rs89 (v1_2, l20000_2) = some y) (μ := fun ⟨rs89, v1_2, l20000_2, o20000_2, k20000_2⟩ => rs89) (E := fun ⟨rs89, v1_2, l20000_2, o20000_2, k20000_2⟩ => [(1, .int .i64 v1_2), (3, .pointer (some ⟨(fr1 0).x, 0, none⟩)), (7, .slice o20000_2 l20000_2.length k20000_2), (8, .int .i64 (a1 + a2))]) (M := fun ⟨rs89, v1_2, l20000_2, o20000_2, k20000_2⟩ => [(1, .cells ((fr1 0).x) 23 [.int .i64 a0.Unit, .int .i64 a0.Count, .int .i64 a0.Size]), (20000, o44 o20000_2 k20000_2 l20000_2)]) ?_ ⟨F, a1, ([] : List S_stripe_Extent), none, 0⟩ hm
      rintro ⟨rs89, v1_2, l20000_2, o20000_2, k20000_2⟩ hm ih90
      cases rs89 with
      | zero => cases hm
      | succ rs89 =>
        replace hm := (hst93 _ _).symm.trans hm
        try dsimp only at hm
        refine GS.seq ?_
        refine GS.seq ?_
        refine GS.region (env' := fun _ => [(1, .int .i64 v1_2), (3, .pointer (some ⟨(fr1 0).x, 0, none⟩)), (7, .slice o20000_2 l20000_2.length k20000_2), (8, .int .i64 (a1 + a2)), (39, .bool (decide (v1_2 < (a1 + a2))))]) (mem' := fun _ => [(1, .cells ((fr1 0).x) 23 [.int .i64 a0.Unit, .int .i64 a0.Count, .int .i64 a0.Size]), (20000, o44 o20000_2 k20000_2 l20000_2)]) (RunsTo.mk [] [1, 3, 7, 8, 39] [1, 20000] (fun _ => []) (fun _ => by kernel_rfl) (fun _ => trivial)) ?_
        intro _
        refine GS.cond (t := decide (v1_2 < (a1 + a2))) rfl rfl (fun h62 => ?_) (fun h62 => ?_)
        · replace hm := br_t h62 hm
          refine GS.skip ?_
          refine GS.block ?_
          refine GS.seq ?_
          refine bnd_elim hm (fun y64 e65 hm => ?_)
          refine GS.region (env' := fun _ => [(1, .int .i64 v1_2), (3, .pointer (some ⟨(fr1 0).x, 0, none⟩)), (7, .slice o20000_2 l20000_2.length k20000_2), (8, .int .i64 (a1 + a2)), (9, .int .i64 y64.1), (10, .int .i64 y64.2)]) (mem' := fun _ => [(1, .cells ((fr1 0).x) 23 [.int .i64 a0.Unit, .int .i64 a0.Count, .int .i64 a0.Size]), (20000, o44 o20000_2 k20000_2 l20000_2)]) (RunsTo.mk [(0, { act := .load 1 0 0 [] }), (2, { act := .call [] (.tuple #[.int .i64 y64.1, .int .i64 y64.2]) })] [1, 3, 7, 8, 9, 10] [1, 20000] (fun _ => [(fr1 0).x = (fr1 0).x, CallOK Tryd.prog 10 #[.agg #[.int .i64 a0.Unit, .int .i64 a0.Count, .int .i64 a0.Size], .int .i64 v1_2] (.tuple #[.int .i64 y64.1, .int .i64 y64.2]) []]) (fun _ => by kernel_rfl) (fun _ => ⟨rfl, (w_stripe_Place F a0 v1_2 e65).ok trivial, trivial⟩)) ?_
          intro _
          refine GS.seq ?_
          refine grd_elim hm (fun g67 hm => ?_)
          refine grd_elim hm (fun g68 hm => ?_)
          refine grd_elim hm (fun g69 hm => ?_)
          refine GS.region (env' := fun _ => [(1, .int .i64 v1_2), (3, .pointer (some ⟨(fr1 0).x, 0, none⟩)), (7, .slice o20000_2 l20000_2.length k20000_2), (8, .int .i64 (a1 + a2)), (9, .int .i64 y64.1), (10, .int .i64 y64.2), (11, .int .i64 (if ((a1 + a2) - v1_2) < (a0.Unit - (Int.tmod v1_2 a0.Unit)) then ((a1 + a2) - v1_2) else (a0.Unit - (Int.tmod v1_2 a0.Unit))))]) (mem' := fun _ => [(1, .cells ((fr1 0).x) 23 [.int .i64 a0.Unit, .int .i64 a0.Count, .int .i64 a0.Size]), (20000, o44 o20000_2 k20000_2 l20000_2)]) (RunsTo.mkd [(1, { act := .load 1 0 0 [] }), (4, { act := .load 1 0 0 [] }), (5, { act := .div }), (6, { sp := some (.int .i64 (a0.Unit - (Int.tmod v1_2 a0.Unit))) }), (9, { sp := some (.int .i64 ((a1 + a2) - v1_2)) })] [1, 3, 7, 8, 9, 10, 11] [1, 20000] (fun _ => [(fr1 0).x = (fr1 0).x, (fr1 0).x = (fr1 0).x, a0.Unit ≠ 0, ((.int .i64 (IntKind.i64.wrap (a0.Unit - (Int.tmod v1_2 a0.Unit)))) : Value) = .int .i64 (a0.Unit - (Int.tmod v1_2 a0.Unit)), ((.int .i64 (IntKind.i64.wrap ((a1 + a2) - v1_2))) : Value) = .int .i64 ((a1 + a2) - v1_2)]) (by kernel_rfl) (by kernel_rfl) (fun _ => by kernel_rfl) (fun _ => ⟨rfl, rfl, g67, I64.w g68, I64.w g69, trivial⟩)) ?_
          intro _
          refine GS.seq ?_
          refine GS.seq ?_
          refine grd_elim hm (fun g71 hm => ?_)
          refine GS.region (env' := fun _ => [(1, .int .i64 v1_2), (3, .pointer (some ⟨(fr1 0).x, 0, none⟩)), (7, .slice o20000_2 l20000_2.length k20000_2), (8, .int .i64 (a1 + a2)), (9, .int .i64 y64.1), (10, .int .i64 y64.2), (11, .int .i64 (if ((a1 + a2) - v1_2) < (a0.Unit - (Int.tmod v1_2 a0.Unit)) then ((a1 + a2) - v1_2) else (a0.Unit - (Int.tmod v1_2 a0.Unit)))), (12, .int .i64 (((l20000_2.length : Nat) : Int) - 1))]) (mem' := fun _ => [(1, .cells ((fr1 0).x) 23 [.int .i64 a0.Unit, .int .i64 a0.Count, .int .i64 a0.Size]), (20000, o44 o20000_2 k20000_2 l20000_2)]) (RunsTo.mk [(2, { sp := some (.int .i64 (((l20000_2.length : Nat) : Int) - 1)) })] [1, 3, 7, 8, 9, 10, 11, 12] [1, 20000] (fun _ => [((.int .i64 (IntKind.i64.wrap (((l20000_2.length : Nat) : Int) - 1))) : Value) = .int .i64 (((l20000_2.length : Nat) : Int) - 1)]) (fun _ => by kernel_rfl) (fun _ => ⟨I64.w g71, trivial⟩)) ?_
          intro _
          refine GS.seq ?_
          refine jn_elim hm (fun J74 hJ76 hm => ?_)
          refine GS.cut (ι := Bool) (I := fun (v85_5 : Bool) => J74 v85_5 = some y) (E := fun (v85_5 : Bool) => [(1, .int .i64 v1_2), (3, .pointer (some ⟨(fr1 0).x, 0, none⟩)), (7, .slice o20000_2 l20000_2.length k20000_2), (8, .int .i64 (a1 + a2)), (9, .int .i64 y64.1), (10, .int .i64 y64.2), (11, .int .i64 (if ((a1 + a2) - v1_2) < (a0.Unit - (Int.tmod v1_2 a0.Unit)) then ((a1 + a2) - v1_2) else (a0.Unit - (Int.tmod v1_2 a0.Unit)))), (12, .int .i64 (((l20000_2.length : Nat) : Int) - 1)), (85, .bool v85_5)]) (M := fun (v85_5 : Bool) => [(1, .cells ((fr1 0).x) 23 [.int .i64 a0.Unit, .int .i64 a0.Count, .int .i64 a0.Size]), (20000, o44 o20000_2 k20000_2 l20000_2)]) ?_ ?_
          rotate_left
          · intro H75
            refine br_elim hm (fun h73 hm => ?_) (fun h73 hm => ?_)
            · skip
              refine grd_elim hm (fun g74 hm => ?_)
              refine br_elim hm (fun h75 hm => ?_) (fun h75 hm => ?_)
              · skip
                refine grd_elim hm (fun g76 hm => ?_)
                refine GS.region (env' := fun _ => [(1, .int .i64 v1_2), (3, .pointer (some ⟨(fr1 0).x, 0, none⟩)), (7, .slice o20000_2 l20000_2.length k20000_2), (8, .int .i64 (a1 + a2)), (9, .int .i64 y64.1), (10, .int .i64 y64.2), (11, .int .i64 (if ((a1 + a2) - v1_2) < (a0.Unit - (Int.tmod v1_2 a0.Unit)) then ((a1 + a2) - v1_2) else (a0.Unit - (Int.tmod v1_2 a0.Unit)))), (12, .int .i64 (((l20000_2.length : Nat) : Int) - 1)), (85, .bool ((((l20000_2.getD (Int.toNat (((l20000_2.length : Nat) : Int) - 1)) dS_stripe_Extent).At) + ((l20000_2.getD (Int.toNat (((l20000_2.length : Nat) : Int) - 1)) dS_stripe_Extent).N)) == y64.2))]) (mem' := fun _ => [(1, .cells ((fr1 0).x) 23 [.int .i64 a0.Unit, .int .i64 a0.Count, .int .i64 a0.Size]), (20000, o44 o20000_2 k20000_2 l20000_2)]) (RunsTo.mkd [(2, { sp := some (.bool true) }), (5, { act := .idx 20000 (Int.toNat (((l20000_2.length : Nat) : Int) - 1)) }), (7, { act := .load 20000 (Int.toNat (((l20000_2.length : Nat) : Int) - 1)) 0 [.int .i64 ((l20000_2.getD (Int.toNat (((l20000_2.length : Nat) : Int) - 1)) dS_stripe_Extent).Object), .int .i64 ((l20000_2.getD (Int.toNat (((l20000_2.length : Nat) : Int) - 1)) dS_stripe_Extent).At), .int .i64 ((l20000_2.getD (Int.toNat (((l20000_2.length : Nat) : Int) - 1)) dS_stripe_Extent).N)] }), (11, { sp := some (.bool true) }), (14, { act := .idx 20000 (Int.toNat (((l20000_2.length : Nat) : Int) - 1)) }), (16, { act := .load 20000 (Int.toNat (((l20000_2.length : Nat) : Int) - 1)) 1 [.int .i64 ((l20000_2.getD (Int.toNat (((l20000_2.length : Nat) : Int) - 1)) dS_stripe_Extent).Object), .int .i64 ((l20000_2.getD (Int.toNat (((l20000_2.length : Nat) : Int) - 1)) dS_stripe_Extent).At), .int .i64 ((l20000_2.getD (Int.toNat (((l20000_2.length : Nat) : Int) - 1)) dS_stripe_Extent).N)] }), (19, { act := .idx 20000 (Int.toNat (((l20000_2.length : Nat) : Int) - 1)) }), (21, { act := .load 20000 (Int.toNat (((l20000_2.length : Nat) : Int) - 1)) 2 [.int .i64 ((l20000_2.getD (Int.toNat (((l20000_2.length : Nat) : Int) - 1)) dS_stripe_Extent).Object), .int .i64 ((l20000_2.getD (Int.toNat (((l20000_2.length : Nat) : Int) - 1)) dS_stripe_Extent).At), .int .i64 ((l20000_2.getD (Int.toNat (((l20000_2.length : Nat) : Int) - 1)) dS_stripe_Extent).N)] }), (22, { sp := some (.int .i64 (((l20000_2.getD (Int.toNat (((l20000_2.length : Nat) : Int) - 1)) dS_stripe_Extent).At) + ((l20000_2.getD (Int.toNat (((l20000_2.length : Nat) : Int) - 1)) dS_stripe_Extent).N))) })] [1, 3, 7, 8, 9, 10, 11, 12, 85] [1, 20000] (fun _ => [((.bool (decide ((((l20000_2.length : Nat) : Int) - 1) ≥ 0))) : Value) = .bool true, o20000_2 = o20000_2, l20000_2.length = (List.map S_stripe_Extent.row l20000_2).length, ((((l20000_2.length : Nat) : Int) - 1) : Int) = (((Int.toNat (((l20000_2.length : Nat) : Int) - 1)) : Nat) : Int), (Int.toNat (((l20000_2.length : Nat) : Int) - 1)) < l20000_2.length, blk o20000_2 = blk o20000_2, offs o20000_2 + (Int.toNat (((l20000_2.length : Nat) : Int) - 1)) * 3 = offs o20000_2 + ((Int.toNat (((l20000_2.length : Nat) : Int) - 1)) * 3 + 0), (List.map S_stripe_Extent.row l20000_2)[(Int.toNat (((l20000_2.length : Nat) : Int) - 1))]? = some [.int .i64 ((l20000_2.getD (Int.toNat (((l20000_2.length : Nat) : Int) - 1)) dS_stripe_Extent).Object), .int .i64 ((l20000_2.getD (Int.toNat (((l20000_2.length : Nat) : Int) - 1)) dS_stripe_Extent).At), .int .i64 ((l20000_2.getD (Int.toNat (((l20000_2.length : Nat) : Int) - 1)) dS_stripe_Extent).N)], ((.bool (((l20000_2.getD (Int.toNat (((l20000_2.length : Nat) : Int) - 1)) dS_stripe_Extent).Object) == y64.1)) : Value) = .bool true, o20000_2 = o20000_2, l20000_2.length = (List.map S_stripe_Extent.row l20000_2).length, ((((l20000_2.length : Nat) : Int) - 1) : Int) = (((Int.toNat (((l20000_2.length : Nat) : Int) - 1)) : Nat) : Int), (Int.toNat (((l20000_2.length : Nat) : Int) - 1)) < l20000_2.length, blk o20000_2 = blk o20000_2, offs o20000_2 + (Int.toNat (((l20000_2.length : Nat) : Int) - 1)) * 3 + 1 = offs o20000_2 + ((Int.toNat (((l20000_2.length : Nat) : Int) - 1)) * 3 + 1), (List.map S_stripe_Extent.row l20000_2)[(Int.toNat (((l20000_2.length : Nat) : Int) - 1))]? = some [.int .i64 ((l20000_2.getD (Int.toNat (((l20000_2.length : Nat) : Int) - 1)) dS_stripe_Extent).Object), .int .i64 ((l20000_2.getD (Int.toNat (((l20000_2.length : Nat) : Int) - 1)) dS_stripe_Extent).At), .int .i64 ((l20000_2.getD (Int.toNat (((l20000_2.length : Nat) : Int) - 1)) dS_stripe_Extent).N)], o20000_2 = o20000_2, l20000_2.length = (List.map S_stripe_Extent.row l20000_2).length, ((((l20000_2.length : Nat) : Int) - 1) : Int) = (((Int.toNat (((l20000_2.length : Nat) : Int) - 1)) : Nat) : Int), (Int.toNat (((l20000_2.length : Nat) : Int) - 1)) < l20000_2.length, blk o20000_2 = blk o20000_2, offs o20000_2 + (Int.toNat (((l20000_2.length : Nat) : Int) - 1)) * 3 + 2 = offs o20000_2 + ((Int.toNat (((l20000_2.length : Nat) : Int) - 1)) * 3 + 2), (List.map S_stripe_Extent.row l20000_2)[(Int.toNat (((l20000_2.length : Nat) : Int) - 1))]? = some [.int .i64 ((l20000_2.getD (Int.toNat (((l20000_2.length : Nat) : Int) - 1)) dS_stripe_Extent).Object), .int .i64 ((l20000_2.getD (Int.toNat (((l20000_2.length : Nat) : Int) - 1)) dS_stripe_Extent).At), .int .i64 ((l20000_2.getD (Int.toNat (((l20000_2.length : Nat) : Int) - 1)) dS_stripe_Extent).N)], ((.int .i64 (IntKind.i64.wrap (((l20000_2.getD (Int.toNat (((l20000_2.length : Nat) : Int) - 1)) dS_stripe_Extent).At) + ((l20000_2.getD (Int.toNat (((l20000_2.length : Nat) : Int) - 1)) dS_stripe_Extent).N)))) : Value) = .int .i64 (((l20000_2.getD (Int.toNat (((l20000_2.length : Nat) : Int) - 1)) dS_stripe_Extent).At) + ((l20000_2.getD (Int.toNat (((l20000_2.length : Nat) : Int) - 1)) dS_stripe_Extent).N))]) (by kernel_rfl) (by kernel_rfl) (fun _ => by kernel_rfl) (fun _ => ⟨bool_eq h73, rfl, mlen S_stripe_Extent.row l20000_2, g74.eq, g74.2, rfl, rfl, map_at S_stripe_Extent.row dS_stripe_Extent g74.2, bool_eq h75, rfl, mlen S_stripe_Extent.row l20000_2, g74.eq, g74.2, rfl, (Nat.add_assoc ..), map_at S_stripe_Extent.row dS_stripe_Extent g74.2, rfl, mlen S_stripe_Extent.row l20000_2, g74.eq, g74.2, rfl, (Nat.add_assoc ..), map_at S_stripe_Extent.row dS_stripe_Extent g74.2, I64.w g76, trivial⟩)) ?_
                intro _
                refine GS.rekey (env' := [(1, .int .i64 v1_2), (3, .pointer (some ⟨(fr1 0).x, 0, none⟩)), (7, .slice o20000_2 l20000_2.length k20000_2), (8, .int .i64 (a1 + a2)), (9, .int .i64 y64.1), (10, .int .i64 y64.2), (11, .int .i64 (if ((a1 + a2) - v1_2) < (a0.Unit - (Int.tmod v1_2 a0.Unit)) then ((a1 + a2) - v1_2) else (a0.Unit - (Int.tmod v1_2 a0.Unit)))), (12, .int .i64 (((l20000_2.length : Nat) : Int) - 1)), (85, .bool ((((l20000_2.getD (Int.toNat (((l20000_2.length : Nat) : Int) - 1)) dS_stripe_Extent).At) + ((l20000_2.getD (Int.toNat (((l20000_2.length : Nat) : Int) - 1)) dS_stripe_Extent).N)) == y64.2))]) (mem' := [(1, .cells ((fr1 0).x) 23 [.int .i64 a0.Unit, .int .i64 a0.Count, .int .i64 a0.Size]), (20000, o44 o20000_2 k20000_2 l20000_2)]) [1, 3, 7, 8, 9, 10, 11, 12, 85] [(1, 1), (20000, 20000)] (by kernel_rfl) (by kernel_rfl) rfl ?_
                exact H75 ((((l20000_2.getD (Int.toNat (((l20000_2.length : Nat) : Int) - 1)) dS_stripe_Extent).At) + ((l20000_2.getD (Int.toNat (((l20000_2.length : Nat) : Int) - 1)) dS_stripe_Extent).N)) == y64.2) hm
              · skip
                refine GS.region (env' := fun _ => [(1, .int .i64 v1_2), (3, .pointer (some ⟨(fr1 0).x, 0, none⟩)), (7, .slice o20000_2 l20000_2.length k20000_2), (8, .int .i64 (a1 + a2)), (9, .int .i64 y64.1), (10, .int .i64 y64.2), (11, .int .i64 (if ((a1 + a2) - v1_2) < (a0.Unit - (Int.tmod v1_2 a0.Unit)) then ((a1 + a2) - v1_2) else (a0.Unit - (Int.tmod v1_2 a0.Unit)))), (12, .int .i64 (((l20000_2.length : Nat) : Int) - 1)), (85, .bool false)]) (mem' := fun _ => [(1, .cells ((fr1 0).x) 23 [.int .i64 a0.Unit, .int .i64 a0.Count, .int .i64 a0.Size]), (20000, o44 o20000_2 k20000_2 l20000_2)]) (RunsTo.mkd [(2, { sp := some (.bool true) }), (5, { act := .idx 20000 (Int.toNat (((l20000_2.length : Nat) : Int) - 1)) }), (7, { act := .load 20000 (Int.toNat (((l20000_2.length : Nat) : Int) - 1)) 0 [.int .i64 ((l20000_2.getD (Int.toNat (((l20000_2.length : Nat) : Int) - 1)) dS_stripe_Extent).Object), .int .i64 ((l20000_2.getD (Int.toNat (((l20000_2.length : Nat) : Int) - 1)) dS_stripe_Extent).At), .int .i64 ((l20000_2.getD (Int.toNat (((l20000_2.length : Nat) : Int) - 1)) dS_stripe_Extent).N)] }), (11, { sp := some (.bool false) })] [1, 3, 7, 8, 9, 10, 11, 12, 85] [1, 20000] (fun _ => [((.bool (decide ((((l20000_2.length : Nat) : Int) - 1) ≥ 0))) : Value) = .bool true, o20000_2 = o20000_2, l20000_2.length = (List.map S_stripe_Extent.row l20000_2).length, ((((l20000_2.length : Nat) : Int) - 1) : Int) = (((Int.toNat (((l20000_2.length : Nat) : Int) - 1)) : Nat) : Int), (Int.toNat (((l20000_2.length : Nat) : Int) - 1)) < l20000_2.length, blk o20000_2 = blk o20000_2, offs o20000_2 + (Int.toNat (((l20000_2.length : Nat) : Int) - 1)) * 3 = offs o20000_2 + ((Int.toNat (((l20000_2.length : Nat) : Int) - 1)) * 3 + 0), (List.map S_stripe_Extent.row l20000_2)[(Int.toNat (((l20000_2.length : Nat) : Int) - 1))]? = some [.int .i64 ((l20000_2.getD (Int.toNat (((l20000_2.length : Nat) : Int) - 1)) dS_stripe_Extent).Object), .int .i64 ((l20000_2.getD (Int.toNat (((l20000_2.length : Nat) : Int) - 1)) dS_stripe_Extent).At), .int .i64 ((l20000_2.getD (Int.toNat (((l20000_2.length : Nat) : Int) - 1)) dS_stripe_Extent).N)], ((.bool (((l20000_2.getD (Int.toNat (((l20000_2.length : Nat) : Int) - 1)) dS_stripe_Extent).Object) == y64.1)) : Value) = .bool false]) (by kernel_rfl) (by kernel_rfl) (fun _ => by kernel_rfl) (fun _ => ⟨bool_eq h73, rfl, mlen S_stripe_Extent.row l20000_2, g74.eq, g74.2, rfl, rfl, map_at S_stripe_Extent.row dS_stripe_Extent g74.2, bool_eq h75, trivial⟩)) ?_
                intro _
                refine GS.rekey (env' := [(1, .int .i64 v1_2), (3, .pointer (some ⟨(fr1 0).x, 0, none⟩)), (7, .slice o20000_2 l20000_2.length k20000_2), (8, .int .i64 (a1 + a2)), (9, .int .i64 y64.1), (10, .int .i64 y64.2), (11, .int .i64 (if ((a1 + a2) - v1_2) < (a0.Unit - (Int.tmod v1_2 a0.Unit)) then ((a1 + a2) - v1_2) else (a0.Unit - (Int.tmod v1_2 a0.Unit)))), (12, .int .i64 (((l20000_2.length : Nat) : Int) - 1)), (85, .bool false)]) (mem' := [(1, .cells ((fr1 0).x) 23 [.int .i64 a0.Unit, .int .i64 a0.Count, .int .i64 a0.Size]), (20000, o44 o20000_2 k20000_2 l20000_2)]) [1, 3, 7, 8, 9, 10, 11, 12, 85] [(1, 1), (20000, 20000)] (by kernel_rfl) (by kernel_rfl) rfl ?_
                exact H75 false hm
            · skip
              refine GS.region (env' := fun _ => [(1, .int .i64 v1_2), (3, .pointer (some ⟨(fr1 0).x, 0, none⟩)), (7, .slice o20000_2 l20000_2.length k20000_2), (8, .int .i64 (a1 + a2)), (9, .int .i64 y64.1), (10, .int .i64 y64.2), (11, .int .i64 (if ((a1 + a2) - v1_2) < (a0.Unit - (Int.tmod v1_2 a0.Unit)) then ((a1 + a2) - v1_2) else (a0.Unit - (Int.tmod v1_2 a0.Unit)))), (12, .int .i64 (((l20000_2.length : Nat) : Int) - 1)), (85, .bool false)]) (mem' := fun _ => [(1, .cells ((fr1 0).x) 23 [.int .i64 a0.Unit, .int .i64 a0.Count, .int .i64 a0.Size]), (20000, o44 o20000_2 k20000_2 l20000_2)]) (RunsTo.mkd [(2, { sp := some (.bool false) })] [1, 3, 7, 8, 9, 10, 11, 12, 85] [1, 20000] (fun _ => [((.bool (decide ((((l20000_2.length : Nat) : Int) - 1) ≥ 0))) : Value) = .bool false]) (by kernel_rfl) (by kernel_rfl) (fun _ => by kernel_rfl) (fun _ => ⟨bool_eq h73, trivial⟩)) ?_
              intro _
              refine GS.rekey (env' := [(1, .int .i64 v1_2), (3, .pointer (some ⟨(fr1 0).x, 0, none⟩)), (7, .slice o20000_2 l20000_2.length k20000_2), (8, .int .i64 (a1 + a2)), (9, .int .i64 y64.1), (10, .int .i64 y64.2), (11, .int .i64 (if ((a1 + a2) - v1_2) < (a0.Unit - (Int.tmod v1_2 a0.Unit)) then ((a1 + a2) - v1_2) else (a0.Unit - (Int.tmod v1_2 a0.Unit)))), (12, .int .i64 (((l20000_2.length : Nat) : Int) - 1)), (85, .bool false)]) (mem' := [(1, .cells ((fr1 0).x) 23 [.int .i64 a0.Unit, .int .i64 a0.Count, .int .i64 a0.Size]), (20000, o44 o20000_2 k20000_2 l20000_2)]) [1, 3, 7, 8, 9, 10, 11, 12, 85] [(1, 1), (20000, 20000)] (by kernel_rfl) (by kernel_rfl) rfl ?_
              exact H75 false hm
          · rintro v85_5 hm
            replace hm := (hJ76 _).symm.trans hm
            try dsimp only at hm
            refine jn_elim hm (fun J83 hJ85 hm => ?_)
            refine GS.cut (ι := List S_stripe_Extent × Option Addr × Nat) (I := fun ⟨l20000_6, o20000_6, k20000_6⟩ => J83 l20000_6 = some y) (E := fun ⟨l20000_6, o20000_6, k20000_6⟩ => [(1, .int .i64 v1_2), (3, .pointer (some ⟨(fr1 0).x, 0, none⟩)), (7, .slice o20000_6 l20000_6.length k20000_6), (8, .int .i64 (a1 + a2)), (11, .int .i64 (if ((a1 + a2) - v1_2) < (a0.Unit - (Int.tmod v1_2 a0.Unit)) then ((a1 + a2) - v1_2) else (a0.Unit - (Int.tmod v1_2 a0.Unit))))]) (M := fun ⟨l20000_6, o20000_6, k20000_6⟩ => [(1, .cells ((fr1 0).x) 23 [.int .i64 a0.Unit, .int .i64 a0.Count, .int .i64 a0.Size]), (20000, o44 o20000_6 k20000_6 l20000_6)]) ?_ ?_
            rotate_left
            · intro H84
              refine GS.cond (t := v85_5) rfl rfl (fun h77 => ?_) (fun h77 => ?_)
              · replace hm := br_t h77 hm
                refine grd_elim hm (fun g79 hm => ?_)
                refine grd_elim hm (fun g80 hm => ?_)
                refine GS.region (env' := fun _ => [(1, .int .i64 v1_2), (3, .pointer (some ⟨(fr1 0).x, 0, none⟩)), (7, .slice o20000_2 l20000_2.length k20000_2), (8, .int .i64 (a1 + a2)), (11, .int .i64 (if ((a1 + a2) - v1_2) < (a0.Unit - (Int.tmod v1_2 a0.Unit)) then ((a1 + a2) - v1_2) else (a0.Unit - (Int.tmod v1_2 a0.Unit))))]) (mem' := fun _ => [(1, .cells ((fr1 0).x) 23 [.int .i64 a0.Unit, .int .i64 a0.Count, .int .i64 a0.Size]), (20000, .osl o20000_2 k20000_2 44 3 ((List.map S_stripe_Extent.row l20000_2).set (Int.toNat (((l20000_2.length : Nat) : Int) - 1)) [.int .i64 ((l20000_2.getD (Int.toNat (((l20000_2.length : Nat) : Int) - 1)) dS_stripe_Extent).Object), .int .i64 ((l20000_2.getD (Int.toNat (((l20000_2.length : Nat) : Int) - 1)) dS_stripe_Extent).At), .int .i64 (((l20000_2.getD (Int.toNat (((l20000_2.length : Nat) : Int) - 1)) dS_stripe_Extent).N) + (if ((a1 + a2) - v1_2) < (a0.Unit - (Int.tmod v1_2 a0.Unit)) then ((a1 + a2) - v1_2) else (a0.Unit - (Int.tmod v1_2 a0.Unit))))]))]) (RunsTo.mk [(2, { act := .idx 20000 (Int.toNat (((l20000_2.length : Nat) : Int) - 1)) }), (4, { act := .load 20000 (Int.toNat (((l20000_2.length : Nat) : Int) - 1)) 2 [.int .i64 ((l20000_2.getD (Int.toNat (((l20000_2.length : Nat) : Int) - 1)) dS_stripe_Extent).Object), .int .i64 ((l20000_2.getD (Int.toNat (((l20000_2.length : Nat) : Int) - 1)) dS_stripe_Extent).At), .int .i64 ((l20000_2.getD (Int.toNat (((l20000_2.length : Nat) : Int) - 1)) dS_stripe_Extent).N)] }), (6, { sp := some (.int .i64 (((l20000_2.getD (Int.toNat (((l20000_2.length : Nat) : Int) - 1)) dS_stripe_Extent).N) + (if ((a1 + a2) - v1_2) < (a0.Unit - (Int.tmod v1_2 a0.Unit)) then ((a1 + a2) - v1_2) else (a0.Unit - (Int.tmod v1_2 a0.Unit))))) }), (7, { act := .idx 20000 (Int.toNat (((l20000_2.length : Nat) : Int) - 1)) }), (9, { act := .store (Int.toNat (((l20000_2.length : Nat) : Int) - 1)) 2 [.int .i64 ((l20000_2.getD (Int.toNat (((l20000_2.length : Nat) : Int) - 1)) dS_stripe_Extent).Object), .int .i64 ((l20000_2.getD (Int.toNat (((l20000_2.length : Nat) : Int) - 1)) dS_stripe_Extent).At), .int .i64 ((l20000_2.getD (Int.toNat (((l20000_2.length : Nat) : Int) - 1)) dS_stripe_Extent).N)], key := some 20000 })] [1, 3, 7, 8, 11] [1, 20000] (fun _ => [o20000_2 = o20000_2, l20000_2.length = (List.map S_stripe_Extent.row l20000_2).length, ((((l20000_2.length : Nat) : Int) - 1) : Int) = (((Int.toNat (((l20000_2.length : Nat) : Int) - 1)) : Nat) : Int), (Int.toNat (((l20000_2.length : Nat) : Int) - 1)) < l20000_2.length, blk o20000_2 = blk o20000_2, offs o20000_2 + (Int.toNat (((l20000_2.length : Nat) : Int) - 1)) * 3 + 2 = offs o20000_2 + ((Int.toNat (((l20000_2.length : Nat) : Int) - 1)) * 3 + 2), (List.map S_stripe_Extent.row l20000_2)[(Int.toNat (((l20000_2.length : Nat) : Int) - 1))]? = some [.int .i64 ((l20000_2.getD (Int.toNat (((l20000_2.length : Nat) : Int) - 1)) dS_stripe_Extent).Object), .int .i64 ((l20000_2.getD (Int.toNat (((l20000_2.length : Nat) : Int) - 1)) dS_stripe_Extent).At), .int .i64 ((l20000_2.getD (Int.toNat (((l20000_2.length : Nat) : Int) - 1)) dS_stripe_Extent).N)], ((.int .i64 (IntKind.i64.wrap (((l20000_2.getD (Int.toNat (((l20000_2.length : Nat) : Int) - 1)) dS_stripe_Extent).N) + (if ((a1 + a2) - v1_2) < (a0.Unit - (Int.tmod v1_2 a0.Unit)) then ((a1 + a2) - v1_2) else (a0.Unit - (Int.tmod v1_2 a0.Unit)))))) : Value) = .int .i64 (((l20000_2.getD (Int.toNat (((l20000_2.length : Nat) : Int) - 1)) dS_stripe_Extent).N) + (if ((a1 + a2) - v1_2) < (a0.Unit - (Int.tmod v1_2 a0.Unit)) then ((a1 + a2) - v1_2) else (a0.Unit - (Int.tmod v1_2 a0.Unit)))), o20000_2 = o20000_2, l20000_2.length = (List.map S_stripe_Extent.row l20000_2).length, ((((l20000_2.length : Nat) : Int) - 1) : Int) = (((Int.toNat (((l20000_2.length : Nat) : Int) - 1)) : Nat) : Int), (Int.toNat (((l20000_2.length : Nat) : Int) - 1)) < l20000_2.length, blk o20000_2 = blk o20000_2, offs o20000_2 + (Int.toNat (((l20000_2.length : Nat) : Int) - 1)) * 3 + 2 = offs o20000_2 + ((Int.toNat (((l20000_2.length : Nat) : Int) - 1)) * 3 + 2), (List.map S_stripe_Extent.row l20000_2)[(Int.toNat (((l20000_2.length : Nat) : Int) - 1))]? = some [.int .i64 ((l20000_2.getD (Int.toNat (((l20000_2.length : Nat) : Int) - 1)) dS_stripe_Extent).Object), .int .i64 ((l20000_2.getD (Int.toNat (((l20000_2.length : Nat) : Int) - 1)) dS_stripe_Extent).At), .int .i64 ((l20000_2.getD (Int.toNat (((l20000_2.length : Nat) : Int) - 1)) dS_stripe_Extent).N)], ((.int .i64 (((l20000_2.getD (Int.toNat (((l20000_2.length : Nat) : Int) - 1)) dS_stripe_Extent).N) + (if ((a1 + a2) - v1_2) < (a0.Unit - (Int.tmod v1_2 a0.Unit)) then ((a1 + a2) - v1_2) else (a0.Unit - (Int.tmod v1_2 a0.Unit))))) : Value).cells.toList.all Value.oneCell' = true]) (fun _ => by kernel_rfl) (fun _ => ⟨rfl, mlen S_stripe_Extent.row l20000_2, g79.eq, g79.2, rfl, (Nat.add_assoc ..), map_at S_stripe_Extent.row dS_stripe_Extent g79.2, I64.w g80, rfl, mlen S_stripe_Extent.row l20000_2, g79.eq, g79.2, rfl, (Nat.add_assoc ..), map_at S_stripe_Extent.row dS_stripe_Extent g79.2, rfl, trivial⟩)) ?_
                intro _
                refine GS.conv (mem' := [(1, .cells ((fr1 0).x) 23 [.int .i64 a0.Unit, .int .i64 a0.Count, .int .i64 a0.Size]), (20000, o44 o20000_2 k20000_2 (l20000_2.set (Int.toNat (((l20000_2.length : Nat) : Int) - 1)) (S_stripe_Extent.mk ((l20000_2.getD (Int.toNat (((l20000_2.length : Nat) : Int) - 1)) dS_stripe_Extent).Object) ((l20000_2.getD (Int.toNat (((l20000_2.length : Nat) : Int) - 1)) dS_stripe_Extent).At) (((l20000_2.getD (Int.toNat (((l20000_2.length : Nat) : Int) - 1)) dS_stripe_Extent).N) + (if ((a1 + a2) - v1_2) < (a0.Unit - (Int.tmod v1_2 a0.Unit)) then ((a1 + a2) - v1_2) else (a0.Unit - (Int.tmod v1_2 a0.Unit)))))))]) rfl (congrArg (fun rr : List (List Value) => ([(1, .cells ((fr1 0).x) 23 [.int .i64 a0.Unit, .int .i64 a0.Count, .int .i64 a0.Size]), (20000, .osl o20000_2 k20000_2 44 3 rr)] : List (Nat × Ent))) (show (List.map S_stripe_Extent.row l20000_2).set (Int.toNat (((l20000_2.length : Nat) : Int) - 1)) [.int .i64 ((l20000_2.getD (Int.toNat (((l20000_2.length : Nat) : Int) - 1)) dS_stripe_Extent).Object), .int .i64 ((l20000_2.getD (Int.toNat (((l20000_2.length : Nat) : Int) - 1)) dS_stripe_Extent).At), .int .i64 (((l20000_2.getD (Int.toNat (((l20000_2.length : Nat) : Int) - 1)) dS_stripe_Extent).N) + (if ((a1 + a2) - v1_2) < (a0.Unit - (Int.tmod v1_2 a0.Unit)) then ((a1 + a2) - v1_2) else (a0.Unit - (Int.tmod v1_2 a0.Unit))))] = List.map S_stripe_Extent.row (l20000_2.set (Int.toNat (((l20000_2.length : Nat) : Int) - 1)) (S_stripe_Extent.mk ((l20000_2.getD (Int.toNat (((l20000_2.length : Nat) : Int) - 1)) dS_stripe_Extent).Object) ((l20000_2.getD (Int.toNat (((l20000_2.length : Nat) : Int) - 1)) dS_stripe_Extent).At) (((l20000_2.getD (Int.toNat (((l20000_2.length : Nat) : Int) - 1)) dS_stripe_Extent).N) + (if ((a1 + a2) - v1_2) < (a0.Unit - (Int.tmod v1_2 a0.Unit)) then ((a1 + a2) - v1_2) else (a0.Unit - (Int.tmod v1_2 a0.Unit)))))) from mset S_stripe_Extent.row l20000_2 (Int.toNat (((l20000_2.length : Nat) : Int) - 1)) (S_stripe_Extent.mk ((l20000_2.getD (Int.toNat (((l20000_2.length : Nat) : Int) - 1)) dS_stripe_Extent).Object) ((l20000_2.getD (Int.toNat (((l20000_2.length : Nat) : Int) - 1)) dS_stripe_Extent).At) (((l20000_2.getD (Int.toNat (((l20000_2.length : Nat) : Int) - 1)) dS_stripe_Extent).N) + (if ((a1 + a2) - v1_2) < (a0.Unit - (Int.tmod v1_2 a0.Unit)) then ((a1 + a2) - v1_2) else (a0.Unit - (Int.tmod v1_2 a0.Unit))))))) ?_
                refine GS.conv (env' := [(1, .int .i64 v1_2), (3, .pointer (some ⟨(fr1 0).x, 0, none⟩)), (7, .slice o20000_2 ((l20000_2.set (Int.toNat (((l20000_2.length : Nat) : Int) - 1)) (S_stripe_Extent.mk ((l20000_2.getD (Int.toNat (((l20000_2.length : Nat) : Int) - 1)) dS_stripe_Extent).Object) ((l20000_2.getD (Int.toNat (((l20000_2.length : Nat) : Int) - 1)) dS_stripe_Extent).At) (((l20000_2.getD (Int.toNat (((l20000_2.length : Nat) : Int) - 1)) dS_stripe_Extent).N) + (if ((a1 + a2) - v1_2) < (a0.Unit - (Int.tmod v1_2 a0.Unit)) then ((a1 + a2) - v1_2) else (a0.Unit - (Int.tmod v1_2 a0.Unit)))))).length) k20000_2), (8, .int .i64 (a1 + a2)), (11, .int .i64 (if ((a1 + a2) - v1_2) < (a0.Unit - (Int.tmod v1_2 a0.Unit)) then ((a1 + a2) - v1_2) else (a0.Unit - (Int.tmod v1_2 a0.Unit))))]) (congrArg (fun vhole : Value => [(1, .int .i64 v1_2), (3, .pointer (some ⟨(fr1 0).x, 0, none⟩)), (7, vhole), (8, .int .i64 (a1 + a2)), (11, .int .i64 (if ((a1 + a2) - v1_2) < (a0.Unit - (Int.tmod v1_2 a0.Unit)) then ((a1 + a2) - v1_2) else (a0.Unit - (Int.tmod v1_2 a0.Unit))))]) (show ((.slice o20000_2 l20000_2.length k20000_2 : Value) = .slice o20000_2 ((l20000_2.set (Int.toNat (((l20000_2.length : Nat) : Int) - 1)) (S_stripe_Extent.mk ((l20000_2.getD (Int.toNat (((l20000_2.length : Nat) : Int) - 1)) dS_stripe_Extent).Object) ((l20000_2.getD (Int.toNat (((l20000_2.length : Nat) : Int) - 1)) dS_stripe_Extent).At) (((l20000_2.getD (Int.toNat (((l20000_2.length : Nat) : Int) - 1)) dS_stripe_Extent).N) + (if ((a1 + a2) - v1_2) < (a0.Unit - (Int.tmod v1_2 a0.Unit)) then ((a1 + a2) - v1_2) else (a0.Unit - (Int.tmod v1_2 a0.Unit)))))).length) k20000_2) from (by simp []))) rfl ?_
                refine GS.rekey (env' := [(1, .int .i64 v1_2), (3, .pointer (some ⟨(fr1 0).x, 0, none⟩)), (7, .slice o20000_2 ((l20000_2.set (Int.toNat (((l20000_2.length : Nat) : Int) - 1)) (S_stripe_Extent.mk ((l20000_2.getD (Int.toNat (((l20000_2.length : Nat) : Int) - 1)) dS_stripe_Extent).Object) ((l20000_2.getD (Int.toNat (((l20000_2.length : Nat) : Int) - 1)) dS_stripe_Extent).At) (((l20000_2.getD (Int.toNat (((l20000_2.length : Nat) : Int) - 1)) dS_stripe_Extent).N) + (if ((a1 + a2) - v1_2) < (a0.Unit - (Int.tmod v1_2 a0.Unit)) then ((a1 + a2) - v1_2) else (a0.Unit - (Int.tmod v1_2 a0.Unit)))))).length) k20000_2), (8, .int .i64 (a1 + a2)), (11, .int .i64 (if ((a1 + a2) - v1_2) < (a0.Unit - (Int.tmod v1_2 a0.Unit)) then ((a1 + a2) - v1_2) else (a0.Unit - (Int.tmod v1_2 a0.Unit))))]) (mem' := [(1, .cells ((fr1 0).x) 23 [.int .i64 a0.Unit, .int .i64 a0.Count, .int .i64 a0.Size]), (20000, o44 o20000_2 k20000_2 (l20000_2.set (Int.toNat (((l20000_2.length : Nat) : Int) - 1)) (S_stripe_Extent.mk ((l20000_2.getD (Int.toNat (((l20000_2.length : Nat) : Int) - 1)) dS_stripe_Extent).Object) ((l20000_2.getD (Int.toNat (((l20000_2.length : Nat) : Int) - 1)) dS_stripe_Extent).At) (((l20000_2.getD (Int.toNat (((l20000_2.length : Nat) : Int) - 1)) dS_stripe_Extent).N) + (if ((a1 + a2) - v1_2) < (a0.Unit - (Int.tmod v1_2 a0.Unit)) then ((a1 + a2) - v1_2) else (a0.Unit - (Int.tmod v1_2 a0.Unit)))))))]) [1, 3, 7, 8, 11] [(1, 1), (20000, 20000)] (by kernel_rfl) (by kernel_rfl) rfl ?_
                exact H84 ⟨(l20000_2.set (Int.toNat (((l20000_2.length : Nat) : Int) - 1)) (S_stripe_Extent.mk ((l20000_2.getD (Int.toNat (((l20000_2.length : Nat) : Int) - 1)) dS_stripe_Extent).Object) ((l20000_2.getD (Int.toNat (((l20000_2.length : Nat) : Int) - 1)) dS_stripe_Extent).At) (((l20000_2.getD (Int.toNat (((l20000_2.length : Nat) : Int) - 1)) dS_stripe_Extent).N) + (if ((a1 + a2) - v1_2) < (a0.Unit - (Int.tmod v1_2 a0.Unit)) then ((a1 + a2) - v1_2) else (a0.Unit - (Int.tmod v1_2 a0.Unit)))))), o20000_2, k20000_2⟩ hm
              · replace hm := br_f h77 hm
                refine grd_elim hm (fun g82 hm => ?_)
                refine GS.region (env' := fun fr81 => [(1, .int .i64 v1_2), (3, .pointer (some ⟨(fr1 0).x, 0, none⟩)), (7, .slice ((fr81 6).ob) ((l20000_2 ++ [(S_stripe_Extent.mk y64.1 y64.2 (if ((a1 + a2) - v1_2) < (a0.Unit - (Int.tmod v1_2 a0.Unit)) then ((a1 + a2) - v1_2) else (a0.Unit - (Int.tmod v1_2 a0.Unit))))]).length) ((fr81 6).cap)), (8, .int .i64 (a1 + a2)), (11, .int .i64 (if ((a1 + a2) - v1_2) < (a0.Unit - (Int.tmod v1_2 a0.Unit)) then ((a1 + a2) - v1_2) else (a0.Unit - (Int.tmod v1_2 a0.Unit))))]) (mem' := fun fr81 => [(1, .cells ((fr1 0).x) 23 [.int .i64 a0.Unit, .int .i64 a0.Count, .int .i64 a0.Size]), (20000, .osl ((fr81 6).ob) ((fr81 6).cap) 44 3 ((List.map S_stripe_Extent.row l20000_2) ++ ([[.int .i64 y64.1, .int .i64 y64.2, .int .i64 (if ((a1 + a2) - v1_2) < (a0.Unit - (Int.tmod v1_2 a0.Unit)) then ((a1 + a2) - v1_2) else (a0.Unit - (Int.tmod v1_2 a0.Unit)))]] : List (List Value))))]) (RunsTo.mk [(5, { act := .new (.row 1 3), key := some 20001, spf := some (fun f => .slice (some (Addr.mk f.x 0 none)) ([(S_stripe_Extent.mk y64.1 y64.2 (if ((a1 + a2) - v1_2) < (a0.Unit - (Int.tmod v1_2 a0.Unit)) then ((a1 + a2) - v1_2) else (a0.Unit - (Int.tmod v1_2 a0.Unit))))].length) 1) }), (6, { act := .app (some 20001), key := some 20000, spf := some (fun f => .slice (f.ob) ((l20000_2 ++ [(S_stripe_Extent.mk y64.1 y64.2 (if ((a1 + a2) - v1_2) < (a0.Unit - (Int.tmod v1_2 a0.Unit)) then ((a1 + a2) - v1_2) else (a0.Unit - (Int.tmod v1_2 a0.Unit))))]).length) (f.cap)) })] [1, 3, 7, 8, 11] [1, 20000] (fun fr81 => [((.slice (some (Addr.mk (fr81 5).x 0 none)) 1 1) : Value) = .slice (some (Addr.mk (fr81 5).x 0 none)) ([(S_stripe_Extent.mk y64.1 y64.2 (if ((a1 + a2) - v1_2) < (a0.Unit - (Int.tmod v1_2 a0.Unit)) then ((a1 + a2) - v1_2) else (a0.Unit - (Int.tmod v1_2 a0.Unit))))].length) 1, (some (Addr.mk (fr81 5).x 0 none)) = (some (Addr.mk (fr81 5).x 0 none)), [(S_stripe_Extent.mk y64.1 y64.2 (if ((a1 + a2) - v1_2) < (a0.Unit - (Int.tmod v1_2 a0.Unit)) then ((a1 + a2) - v1_2) else (a0.Unit - (Int.tmod v1_2 a0.Unit))))].length = ([[.int .i64 y64.1, .int .i64 y64.2, .int .i64 (if ((a1 + a2) - v1_2) < (a0.Unit - (Int.tmod v1_2 a0.Unit)) then ((a1 + a2) - v1_2) else (a0.Unit - (Int.tmod v1_2 a0.Unit)))]] : List (List Value)).length, o20000_2 = o20000_2, k20000_2 = k20000_2, l20000_2.length = (List.map S_stripe_Extent.row l20000_2).length, ((List.map S_stripe_Extent.row l20000_2).length + ([[.int .i64 y64.1, .int .i64 y64.2, .int .i64 (if ((a1 + a2) - v1_2) < (a0.Unit - (Int.tmod v1_2 a0.Unit)) then ((a1 + a2) - v1_2) else (a0.Unit - (Int.tmod v1_2 a0.Unit)))]] : List (List Value)).length) * (24 + 1) ≤ 70368744177664, ([[.int .i64 y64.1, .int .i64 y64.2, .int .i64 (if ((a1 + a2) - v1_2) < (a0.Unit - (Int.tmod v1_2 a0.Unit)) then ((a1 + a2) - v1_2) else (a0.Unit - (Int.tmod v1_2 a0.Unit)))]] : List (List Value)).flatten.all Value.oneCell' = true, ((.slice ((fr81 6).ob) (l20000_2.length + ([[.int .i64 y64.1, .int .i64 y64.2, .int .i64 (if ((a1 + a2) - v1_2) < (a0.Unit - (Int.tmod v1_2 a0.Unit)) then ((a1 + a2) - v1_2) else (a0.Unit - (Int.tmod v1_2 a0.Unit)))]] : List (List Value)).length) ((fr81 6).cap)) : Value) = .slice ((fr81 6).ob) ((l20000_2 ++ [(S_stripe_Extent.mk y64.1 y64.2 (if ((a1 + a2) - v1_2) < (a0.Unit - (Int.tmod v1_2 a0.Unit)) then ((a1 + a2) - v1_2) else (a0.Unit - (Int.tmod v1_2 a0.Unit))))]).length) ((fr81 6).cap)]) (fun fr81 => by kernel_rfl) (fun fr81 => ⟨rfl, rfl, (by rw [show ([[.int .i64 y64.1, .int .i64 y64.2, .int .i64 (if ((a1 + a2) - v1_2) < (a0.Unit - (Int.tmod v1_2 a0.Unit)) then ((a1 + a2) - v1_2) else (a0.Unit - (Int.tmod v1_2 a0.Unit)))]] : List (List Value)) = List.map S_stripe_Extent.row [(S_stripe_Extent.mk y64.1 y64.2 (if ((a1 + a2) - v1_2) < (a0.Unit - (Int.tmod v1_2 a0.Unit)) then ((a1 + a2) - v1_2) else (a0.Unit - (Int.tmod v1_2 a0.Unit))))] from rfl]; exact mlen S_stripe_Extent.row [(S_stripe_Extent.mk y64.1 y64.2 (if ((a1 + a2) - v1_2) < (a0.Unit - (Int.tmod v1_2 a0.Unit)) then ((a1 + a2) - v1_2) else (a0.Unit - (Int.tmod v1_2 a0.Unit))))]), rfl, rfl, mlen S_stripe_Extent.row l20000_2, appb g82 (mlen S_stripe_Extent.row l20000_2).symm (by rw [show ([[.int .i64 y64.1, .int .i64 y64.2, .int .i64 (if ((a1 + a2) - v1_2) < (a0.Unit - (Int.tmod v1_2 a0.Unit)) then ((a1 + a2) - v1_2) else (a0.Unit - (Int.tmod v1_2 a0.Unit)))]] : List (List Value)) = List.map S_stripe_Extent.row [(S_stripe_Extent.mk y64.1 y64.2 (if ((a1 + a2) - v1_2) < (a0.Unit - (Int.tmod v1_2 a0.Unit)) then ((a1 + a2) - v1_2) else (a0.Unit - (Int.tmod v1_2 a0.Unit))))] from rfl]; exact (mlen S_stripe_Extent.row [(S_stripe_Extent.mk y64.1 y64.2 (if ((a1 + a2) - v1_2) < (a0.Unit - (Int.tmod v1_2 a0.Unit)) then ((a1 + a2) - v1_2) else (a0.Unit - (Int.tmod v1_2 a0.Unit))))]).symm), (by rw [show ([[.int .i64 y64.1, .int .i64 y64.2, .int .i64 (if ((a1 + a2) - v1_2) < (a0.Unit - (Int.tmod v1_2 a0.Unit)) then ((a1 + a2) - v1_2) else (a0.Unit - (Int.tmod v1_2 a0.Unit)))]] : List (List Value)) = List.map S_stripe_Extent.row [(S_stripe_Extent.mk y64.1 y64.2 (if ((a1 + a2) - v1_2) < (a0.Unit - (Int.tmod v1_2 a0.Unit)) then ((a1 + a2) - v1_2) else (a0.Unit - (Int.tmod v1_2 a0.Unit))))] from (show ([[.int .i64 y64.1, .int .i64 y64.2, .int .i64 (if ((a1 + a2) - v1_2) < (a0.Unit - (Int.tmod v1_2 a0.Unit)) then ((a1 + a2) - v1_2) else (a0.Unit - (Int.tmod v1_2 a0.Unit)))]] : List (List Value)) = List.map S_stripe_Extent.row [(S_stripe_Extent.mk y64.1 y64.2 (if ((a1 + a2) - v1_2) < (a0.Unit - (Int.tmod v1_2 a0.Unit)) then ((a1 + a2) - v1_2) else (a0.Unit - (Int.tmod v1_2 a0.Unit))))] from rfl)]; exact all_one S_stripe_Extent.row _ (fun _ => rfl)), slen (by simp), trivial⟩)) ?_
                intro fr81
                refine GS.conv (mem' := [(1, .cells ((fr1 0).x) 23 [.int .i64 a0.Unit, .int .i64 a0.Count, .int .i64 a0.Size]), (20000, o44 ((fr81 6).ob) ((fr81 6).cap) (l20000_2 ++ [(S_stripe_Extent.mk y64.1 y64.2 (if ((a1 + a2) - v1_2) < (a0.Unit - (Int.tmod v1_2 a0.Unit)) then ((a1 + a2) - v1_2) else (a0.Unit - (Int.tmod v1_2 a0.Unit))))]))]) rfl (congrArg (fun rr : List (List Value) => ([(1, .cells ((fr1 0).x) 23 [.int .i64 a0.Unit, .int .i64 a0.Count, .int .i64 a0.Size]), (20000, .osl ((fr81 6).ob) ((fr81 6).cap) 44 3 rr)] : List (Nat × Ent))) (show (List.map S_stripe_Extent.row l20000_2) ++ ([[.int .i64 y64.1, .int .i64 y64.2, .int .i64 (if ((a1 + a2) - v1_2) < (a0.Unit - (Int.tmod v1_2 a0.Unit)) then ((a1 + a2) - v1_2) else (a0.Unit - (Int.tmod v1_2 a0.Unit)))]] : List (List Value)) = List.map S_stripe_Extent.row (l20000_2 ++ [(S_stripe_Extent.mk y64.1 y64.2 (if ((a1 + a2) - v1_2) < (a0.Unit - (Int.tmod v1_2 a0.Unit)) then ((a1 + a2) - v1_2) else (a0.Unit - (Int.tmod v1_2 a0.Unit))))]) from (by rw [show List.map S_stripe_Extent.row l20000_2 = List.map S_stripe_Extent.row l20000_2 from rfl, show ([[.int .i64 y64.1, .int .i64 y64.2, .int .i64 (if ((a1 + a2) - v1_2) < (a0.Unit - (Int.tmod v1_2 a0.Unit)) then ((a1 + a2) - v1_2) else (a0.Unit - (Int.tmod v1_2 a0.Unit)))]] : List (List Value)) = List.map S_stripe_Extent.row [(S_stripe_Extent.mk y64.1 y64.2 (if ((a1 + a2) - v1_2) < (a0.Unit - (Int.tmod v1_2 a0.Unit)) then ((a1 + a2) - v1_2) else (a0.Unit - (Int.tmod v1_2 a0.Unit))))] from (show ([[.int .i64 y64.1, .int .i64 y64.2, .int .i64 (if ((a1 + a2) - v1_2) < (a0.Unit - (Int.tmod v1_2 a0.Unit)) then ((a1 + a2) - v1_2) else (a0.Unit - (Int.tmod v1_2 a0.Unit)))]] : List (List Value)) = List.map S_stripe_Extent.row [(S_stripe_Extent.mk y64.1 y64.2 (if ((a1 + a2) - v1_2) < (a0.Unit - (Int.tmod v1_2 a0.Unit)) then ((a1 + a2) - v1_2) else (a0.Unit - (Int.tmod v1_2 a0.Unit))))] from rfl)]; exact mapp S_stripe_Extent.row _ _))) ?_
                refine GS.rekey (env' := [(1, .int .i64 v1_2), (3, .pointer (some ⟨(fr1 0).x, 0, none⟩)), (7, .slice ((fr81 6).ob) ((l20000_2 ++ [(S_stripe_Extent.mk y64.1 y64.2 (if ((a1 + a2) - v1_2) < (a0.Unit - (Int.tmod v1_2 a0.Unit)) then ((a1 + a2) - v1_2) else (a0.Unit - (Int.tmod v1_2 a0.Unit))))]).length) ((fr81 6).cap)), (8, .int .i64 (a1 + a2)), (11, .int .i64 (if ((a1 + a2) - v1_2) < (a0.Unit - (Int.tmod v1_2 a0.Unit)) then ((a1 + a2) - v1_2) else (a0.Unit - (Int.tmod v1_2 a0.Unit))))]) (mem' := [(1, .cells ((fr1 0).x) 23 [.int .i64 a0.Unit, .int .i64 a0.Count, .int .i64 a0.Size]), (20000, o44 ((fr81 6).ob) ((fr81 6).cap) (l20000_2 ++ [(S_stripe_Extent.mk y64.1 y64.2 (if ((a1 + a2) - v1_2) < (a0.Unit - (Int.tmod v1_2 a0.Unit)) then ((a1 + a2) - v1_2) else (a0.Unit - (Int.tmod v1_2 a0.Unit))))]))]) [1, 3, 7, 8, 11] [(1, 1), (20000, 20000)] (by kernel_rfl) (by kernel_rfl) rfl ?_
                exact H84 ⟨(l20000_2 ++ [(S_stripe_Extent.mk y64.1 y64.2 (if ((a1 + a2) - v1_2) < (a0.Unit - (Int.tmod v1_2 a0.Unit)) then ((a1 + a2) - v1_2) else (a0.Unit - (Int.tmod v1_2 a0.Unit))))]), (fr81 6).ob, (fr81 6).cap⟩ hm
            · rintro ⟨l20000_6, o20000_6, k20000_6⟩ hm
              replace hm := (hJ85 _).symm.trans hm
              try dsimp only at hm
              refine grd_elim hm (fun g87 hm => ?_)
              refine GS.region (env' := fun _ => [(1, .int .i64 (v1_2 + (if ((a1 + a2) - v1_2) < (a0.Unit - (Int.tmod v1_2 a0.Unit)) then ((a1 + a2) - v1_2) else (a0.Unit - (Int.tmod v1_2 a0.Unit))))), (3, .pointer (some ⟨(fr1 0).x, 0, none⟩)), (7, .slice o20000_6 l20000_6.length k20000_6), (8, .int .i64 (a1 + a2))]) (mem' := fun _ => [(1, .cells ((fr1 0).x) 23 [.int .i64 a0.Unit, .int .i64 a0.Count, .int .i64 a0.Size]), (20000, o44 o20000_6 k20000_6 l20000_6)]) (RunsTo.mk [(2, { sp := some (.int .i64 (v1_2 + (if ((a1 + a2) - v1_2) < (a0.Unit - (Int.tmod v1_2 a0.Unit)) then ((a1 + a2) - v1_2) else (a0.Unit - (Int.tmod v1_2 a0.Unit))))) })] [1, 3, 7, 8] [1, 20000] (fun _ => [((.int .i64 (IntKind.i64.wrap (v1_2 + (if ((a1 + a2) - v1_2) < (a0.Unit - (Int.tmod v1_2 a0.Unit)) then ((a1 + a2) - v1_2) else (a0.Unit - (Int.tmod v1_2 a0.Unit)))))) : Value) = .int .i64 (v1_2 + (if ((a1 + a2) - v1_2) < (a0.Unit - (Int.tmod v1_2 a0.Unit)) then ((a1 + a2) - v1_2) else (a0.Unit - (Int.tmod v1_2 a0.Unit))))]) (fun _ => by kernel_rfl) (fun _ => ⟨I64.w g87, trivial⟩)) ?_
              intro _
              refine GS.inBlock ?_
              refine GS.inLoop ?_
              refine GS.rekey (env' := [(1, .int .i64 (v1_2 + (if ((a1 + a2) - v1_2) < (a0.Unit - (Int.tmod v1_2 a0.Unit)) then ((a1 + a2) - v1_2) else (a0.Unit - (Int.tmod v1_2 a0.Unit))))), (3, .pointer (some ⟨(fr1 0).x, 0, none⟩)), (7, .slice o20000_6 l20000_6.length k20000_6), (8, .int .i64 (a1 + a2))]) (mem' := [(1, .cells ((fr1 0).x) 23 [.int .i64 a0.Unit, .int .i64 a0.Count, .int .i64 a0.Size]), (20000, o44 o20000_6 k20000_6 l20000_6)]) [1, 3, 7, 8] [(1, 1), (20000, 20000)] (by kernel_rfl) (by kernel_rfl) rfl ?_
              exact ih90 ⟨rs89, (v1_2 + (if ((a1 + a2) - v1_2) < (a0.Unit - (Int.tmod v1_2 a0.Unit)) then ((a1 + a2) - v1_2) else (a0.Unit - (Int.tmod v1_2 a0.Unit)))), l20000_6, o20000_6, k20000_6⟩ hm (Nat.lt_succ_self _)
        · replace hm := br_f h62 hm
          refine GS.exit rfl ?_
          refine GS.seq ?_
          refine GS.region (env' := fun _ => [(6, .slice o20000_2 l20000_2.length k20000_2)]) (mem' := fun _ => [(20000, o44 o20000_2 k20000_2 l20000_2)]) (RunsTo.mk [] [6] [20000] (fun _ => []) (fun _ => by kernel_rfl) (fun _ => trivial)) ?_
          intro _
          have hy := Option.some.inj hm
          subst hy
          refine GS.ret (fn := Tryd.f21) [0] [.slice o20000_2 l20000_2.length k20000_2] [] rfl Tryd.func21 (by kernel_rfl) trivial (fun w' hs => ?_)
          exact ⟨⟨o20000_2, k20000_2⟩, rfl, hs.turnedG (ks := [20000]) rfl rfl⟩

theorem w_stripe_Sizes (F : Nat) (a0 : S_stripe_Layout) (a1 : Int) {y : List Int} (hm : m_stripe_Sizes F a0 a1 = some y) : CallG Tryd.prog 26 #[.agg #[.int .i64 a0.Unit, .int .i64 a0.Count, .int .i64 a0.Size], .int .i64 a1] (X := Option Addr × Nat) (fun ⟨x0, x1⟩ => .slice x0 y.length x1) [] [] (fun ⟨x0, x1⟩ => [o3 x0 x1 y]) := by
  intro w hg
  rw [m_stripe_Sizes] at hm
  refine GS.start (S := mayT [] []) (mem := []) Tryd.func26 rfl Tryd.ntmps26 (Nat.le_of_ble_eq_true rfl) (hg.start rfl) ?_
  refine GS.conv (env' := [(0, .agg #[.int .i64 a0.Unit, .int .i64 a0.Count, .int .i64 a0.Size]), (1, .int .i64 a1)]) rfl rfl ?_
  refine GS.seq ?_
  refine GS.region (env' := fun fr1 => [(1, .int .i64 a1), (2, .pointer (some ⟨(fr1 0).x, 0, none⟩))]) (mem' := fun fr1 => [(1, .cells ((fr1 0).x) 23 [.int .i64 a0.Unit, .int .i64 a0.Count, .int .i64 a0.Size])]) (RunsTo.mk [(0, { act := .new .var, key := some 1 })] [1, 2] [1] (fun fr1 => []) (fun fr1 => by kernel_rfl) (fun fr1 => trivial)) ?_
  intro fr1
  refine GS.seq ?_
  refine GS.seq ?_
  refine jn_elim hm (fun J7 hJ9 hm => ?_)
  refine GS.cut (ι := Bool) (I := fun (v18_1 : Bool) => J7 v18_1 = some y) (E := fun (v18_1 : Bool) => [(1, .int .i64 a1), (2, .pointer (some ⟨(fr1 0).x, 0, none⟩)), (18, .bool v18_1)]) (M := fun (v18_1 : Bool) => [(1, .cells ((fr1 0).x) 23 [.int .i64 a0.Unit, .int .i64 a0.Count, .int .i64 a0.Size])]) ?_ ?_
  rotate_left
  · intro H8
    refine bnd_elim hm (fun y3 e4 hm => ?_)
    refine br_elim hm (fun h5 hm => ?_) (fun h5 hm => ?_)
    · skip
      refine GS.region (env' := fun _ => [(1, .int .i64 a1), (2, .pointer (some ⟨(fr1 0).x, 0, none⟩)), (18, .bool true)]) (mem' := fun _ => [(1, .cells ((fr1 0).x) 23 [.int .i64 a0.Unit, .int .i64 a0.Count, .int .i64 a0.Size])]) (RunsTo.mk [(0, { act := .load 1 0 0 [] }), (1, { act := .call [] (.bool y3) }), (3, { sp := some (.bool true) })] [1, 2, 18] [1] (fun _ => [(fr1 0).x = (fr1 0).x, CallOK Tryd.prog 12 #[.agg #[.int .i64 a0.Unit, .int .i64 a0.Count, .int .i64 a0.Size]] (.bool y3) [], ((.bool (!y3)) : Value) = .bool true]) (fun _ => by kernel_rfl) (fun _ => ⟨rfl, (w_stripe_Good F a0 e4).ok trivial, bool_eq h5, trivial⟩)) ?_
      intro _
      refine GS.rekey (env' := [(1, .int .i64 a1), (2, .pointer (some ⟨(fr1 0).x, 0, none⟩)), (18, .bool true)]) (mem' := [(1, .cells ((fr1 0).x) 23 [.int .i64 a0.Unit, .int .i64 a0.Count, .int .i64 a0.Size])]) [1, 2, 18] [(1, 1)] (by kernel_rfl) (by kernel_rfl) rfl ?_
      exact H8 true hm
    · skip
      refine br_elim hm (fun h6 hm => ?_) (fun h6 hm => ?_)
      · skip
        refine GS.region (env' := fun _ => [(1, .int .i64 a1), (2, .pointer (some ⟨(fr1 0).x, 0, none⟩)), (18, .bool true)]) (mem' := fun _ => [(1, .cells ((fr1 0).x) 23 [.int .i64 a0.Unit, .int .i64 a0.Count, .int .i64 a0.Size])]) (RunsTo.mk [(0, { act := .load 1 0 0 [] }), (1, { act := .call [] (.bool y3) }), (3, { sp := some (.bool false) }), (7, { sp := some (.bool true) })] [1, 2, 18] [1] (fun _ => [(fr1 0).x = (fr1 0).x, CallOK Tryd.prog 12 #[.agg #[.int .i64 a0.Unit, .int .i64 a0.Count, .int .i64 a0.Size]] (.bool y3) [], ((.bool (!y3)) : Value) = .bool false, ((.bool (decide (a1 < 0))) : Value) = .bool true]) (fun _ => by kernel_rfl) (fun _ => ⟨rfl, (w_stripe_Good F a0 e4).ok trivial, bool_eq h5, bool_eq h6, trivial⟩)) ?_
        intro _
        refine GS.rekey (env' := [(1, .int .i64 a1), (2, .pointer (some ⟨(fr1 0).x, 0, none⟩)), (18, .bool true)]) (mem' := [(1, .cells ((fr1 0).x) 23 [.int .i64 a0.Unit, .int .i64 a0.Count, .int .i64 a0.Size])]) [1, 2, 18] [(1, 1)] (by kernel_rfl) (by kernel_rfl) rfl ?_
        exact H8 true hm
      · skip
        refine GS.region (env' := fun _ => [(1, .int .i64 a1), (2, .pointer (some ⟨(fr1 0).x, 0, none⟩)), (18, .bool (decide (a1 > 65536)))]) (mem' := fun _ => [(1, .cells ((fr1 0).x) 23 [.int .i64 a0.Unit, .int .i64 a0.Count, .int .i64 a0.Size])]) (RunsTo.mk [(0, { act := .load 1 0 0 [] }), (1, { act := .call [] (.bool y3) }), (3, { sp := some (.bool false) }), (7, { sp := some (.bool false) })] [1, 2, 18] [1] (fun _ => [(fr1 0).x = (fr1 0).x, CallOK Tryd.prog 12 #[.agg #[.int .i64 a0.Unit, .int .i64 a0.Count, .int .i64 a0.Size]] (.bool y3) [], ((.bool (!y3)) : Value) = .bool false, ((.bool (decide (a1 < 0))) : Value) = .bool false]) (fun _ => by kernel_rfl) (fun _ => ⟨rfl, (w_stripe_Good F a0 e4).ok trivial, bool_eq h5, bool_eq h6, trivial⟩)) ?_
        intro _
        refine GS.rekey (env' := [(1, .int .i64 a1), (2, .pointer (some ⟨(fr1 0).x, 0, none⟩)), (18, .bool (decide (a1 > 65536)))]) (mem' := [(1, .cells ((fr1 0).x) 23 [.int .i64 a0.Unit, .int .i64 a0.Count, .int .i64 a0.Size])]) [1, 2, 18] [(1, 1)] (by kernel_rfl) (by kernel_rfl) rfl ?_
        exact H8 (decide (a1 > 65536)) hm
  · rintro v18_1 hm
    replace hm := (hJ9 _).symm.trans hm
    try dsimp only at hm
    refine GS.cond (t := v18_1) rfl rfl (fun h10 => ?_) (fun h10 => ?_)
    · replace hm := br_t h10 hm
      refine GS.seq ?_
      refine GS.region (env' := fun _ => [(4, .slice none 0 0)]) (mem' := fun _ => []) (RunsTo.mk [] [4] [] (fun _ => []) (fun _ => by kernel_rfl) (fun _ => trivial)) ?_
      intro _
      refine GS.setMem (mem' := [(2, o3 none 0 ([] : List Int))]) (fun w hw => Sat.addNil hw rfl) ?_
      have hy := Option.some.inj hm
      subst hy
      refine GS.ret (fn := Tryd.f26) [0] [.slice none 0 0] [] rfl Tryd.func26 (by kernel_rfl) trivial (fun w' hs => ?_)
      exact ⟨⟨none, 0⟩, rfl, hs.turnedG (ks := [2]) rfl rfl⟩
    · replace hm := br_f h10 hm
      refine GS.skip ?_
      refine GS.seq ?_
      refine GS.region (env' := fun _ => [(1, .int .i64 a1), (2, .pointer (some ⟨(fr1 0).x, 0, none⟩)), (5, .slice none 0 0)]) (mem' := fun _ => [(1, .cells ((fr1 0).x) 23 [.int .i64 a0.Unit, .int .i64 a0.Count, .int .i64 a0.Size])]) (RunsTo.mk [] [1, 2, 5] [1] (fun _ => []) (fun _ => by kernel_rfl) (fun _ => trivial)) ?_
      intro _
      refine GS.seq ?_
      refine GS.seq ?_
      refine bnd_elim hm (fun y14 e15 hm => ?_)
      refine GS.open_ ?_
      refine GR.run (i := 0) 2 (env' := fun _ => [(5, .slice none 0 0), (19, .agg #[.int .i64 a0.Unit, .int .i64 a0.Count, .int .i64 a0.Size]), (20, .int .i64 a1)]) (mem' := fun _ => []) (Nat.le_of_ble_eq_true (by kernel_rfl)) (RunsTo.mk [(0, { act := .load 1 0 0 [] })] [5, 19, 20] [] (fun _ => [(fr1 0).x = (fr1 0).x]) (fun _ => by kernel_rfl) (fun _ => ⟨rfl, trivial⟩)) ?_
      intro _
      refine GR.callG (X := Option Addr × Nat) (i := 2) (g := 21) (args := #[.agg #[.int .i64 a0.Unit, .int .i64 a0.Count, .int .i64 a0.Size], .int .i64 0, .int .i64 a1]) (v := fun ⟨x16, x17⟩ => .slice x16 y14.length x17) (own := []) (ro := []) (es' := fun ⟨x16, x17⟩ => [o44 x16 x17 y14]) (mem' := fun ⟨x16, x17⟩ => [(2, o44 x16 x17 y14)]) (env' := fun ⟨x16, x17⟩ => [(5, .slice none 0 0), (21, .slice x16 y14.length x17)]) [] [2] [5, 21] [2] false (by kernel_rfl) (by kernel_rfl) (by kernel_rfl) (by kernel_rfl) (by kernel_rfl) (fun _ => rfl) (fun _ _ => rfl) trivial (by rintro ⟨x16, x17⟩; kernel_rfl) (by rintro ⟨x16, x17⟩; kernel_rfl) (w_stripe_Extents F a0 0 a1 e15) ?_
      rintro ⟨x16, x17⟩
      refine GR.run (i := 3) 2 (env' := fun _ => [(5, .slice none 0 0), (21, .slice x16 y14.length x17), (22, .int .i64 ((y14.length : Nat) : Int)), (23, .int .i64 0)]) (mem' := fun _ => [(2, o44 x16 x17 y14)]) (Nat.le_of_ble_eq_true (by kernel_rfl)) (RunsTo.mk [] [5, 21, 22, 23] [2] (fun _ => []) (fun _ => by kernel_rfl) (fun _ => trivial)) ?_
      intro _
      refine GR.done (Nat.le_of_ble_eq_true (by kernel_rfl)) ?_
      refine GS.block ?_
      refine GS.loop ?_
      refine GS.know (p := y14.length ≤ x17) (fun w hw => by first | (have h := (hw.ok 2 _ rfl).1.1; rw [List.length_map] at h; exact h) | (have h := (hw.ok 2 _ rfl).1.1; rw [nrows_len] at h; exact h) | simpa using (hw.ok 2 _ rfl).1.1) (fun k19 => ?_)
      refine grd_elim hm (fun g79 hm => ?_)
      refine GS.setMem (mem' := [(2, o44 x16 x17 y14), (20001, o3 none 0 ([] : List Int))]) (fun w hw => Sat.addNil hw rfl) ?_
      refine GS.rekey (env' := [(5, .slice none 0 0), (21, .slice x16 y14.length x17), (22, .int .i64 ((y14.length : Nat) : Int)), (23, .int .i64 0)]) (mem' := [(2, o44 x16 x17 y14), (20000, o3 none 0 ([] : List Int))]) [5, 21, 22, 23] [(2, 2), (20000, 20001)] (by kernel_rfl) (by kernel_rfl) rfl ?_
      refine loopL_elim hm (fun st114 fn115 hst116 hfn117 hm => ?_)
      refine GS.loopInv (ι := List S_stripe_Extent × Nat × List Int × Option Addr × Nat) (I := fun ⟨rs112, v23_2, l20000_2, o20000_2, k20000_2⟩ => y14.drop v23_2 = rs112 ∧ loopL st114 fn115 rs112 v23_2 l20000_2 = some y) (μ := fun ⟨rs112, v23_2, l20000_2, o20000_2, k20000_2⟩ => rs112.length) (E := fun ⟨rs112, v23_2, l20000_2, o20000_2, k20000_2⟩ => [(5, .slice o20000_2 l20000_2.length k20000_2), (21, .slice x16 y14.length x17), (22, .int .i64 ((y14.length : Nat) : Int)), (23, .int .i64 ((v23_2 : Nat) : Int))]) (M := fun ⟨rs112, v23_2, l20000_2, o20000_2, k20000_2⟩ => [(2, o44 x16 x17 y14), (20000, o3 o20000_2 k20000_2 l20000_2)]) ?_ ⟨y14, 0, ([] : List Int), none, 0⟩ ⟨List.drop_zero .., hm⟩
      rintro ⟨rs112, v23_2, l20000_2, o20000_2, k20000_2⟩ ⟨hd78, hm⟩ ih113
      cases rs112 with
      | nil =>
        replace hm := (hfn117 _ _).symm.trans hm
        try dsimp only at hm
        refine GS.seq ?_
        refine GS.region (env' := fun _ => [(5, .slice o20000_2 l20000_2.length k20000_2), (21, .slice x16 y14.length x17), (22, .int .i64 ((y14.length : Nat) : Int)), (23, .int .i64 ((v23_2 : Nat) : Int)), (24, .bool (decide (((v23_2 : Nat) : Int) < ((y14.length : Nat) : Int))))]) (mem' := fun _ => [(2, o44 x16 x17 y14), (20000, o3 o20000_2 k20000_2 l20000_2)]) (RunsTo.mk [] [5, 21, 22, 23, 24] [2, 20000] (fun _ => []) (fun _ => by kernel_rfl) (fun _ => trivial)) ?_
        intro _
        refine GS.seq ?_
        refine GS.cond (t := decide (((v23_2 : Nat) : Int) < ((y14.length : Nat) : Int))) rfl rfl (fun h110 => absb h110 (drop_dec0 hd78)) (fun _ => ?_)
        refine GS.exit rfl ?_
        refine GS.seq ?_
        refine GS.region (env' := fun _ => [(4, .slice o20000_2 l20000_2.length k20000_2)]) (mem' := fun _ => [(20000, o3 o20000_2 k20000_2 l20000_2)]) (RunsTo.mk [] [4] [20000] (fun _ => []) (fun _ => by kernel_rfl) (fun _ => trivial)) ?_
        intro _
        have hy := Option.some.inj hm
        subst hy
        refine GS.ret (fn := Tryd.f26) [0] [.slice o20000_2 l20000_2.length k20000_2] [] rfl Tryd.func26 (by kernel_rfl) trivial (fun w' hs => ?_)
        exact ⟨⟨o20000_2, k20000_2⟩, rfl, hs.turnedG (ks := [20000]) rfl rfl⟩
      | cons x80 rs112 =>
        replace hm := (hst116 _ _ _ _).symm.trans hm
        try dsimp only at hm
        refine GS.seq ?_
        refine GS.region (env' := fun _ => [(5, .slice o20000_2 l20000_2.length k20000_2), (21, .slice x16 y14.length x17), (22, .int .i64 ((y14.length : Nat) : Int)), (23, .int .i64 ((v23_2 : Nat) : Int)), (24, .bool (decide (((v23_2 : Nat) : Int) < ((y14.length : Nat) : Int))))]) (mem' := fun _ => [(2, o44 x16 x17 y14), (20000, o3 o20000_2 k20000_2 l20000_2)]) (RunsTo.mk [] [5, 21, 22, 23, 24] [2, 20000] (fun _ => []) (fun _ => by kernel_rfl) (fun _ => trivial)) ?_
        intro _
        refine GS.seq ?_
        refine GS.cond (t := decide (((v23_2 : Nat) : Int) < ((y14.length : Nat) : Int))) rfl rfl (fun _ => ?_) (fun h82 => absb (drop_dec hd78) h82)
        refine GS.skip ?_
        refine GS.seq ?_
        refine GS.block ?_
        refine GS.seq ?_
        refine GS.region (env' := fun fr83 => [(5, .slice o20000_2 l20000_2.length k20000_2), (7, .pointer (some ⟨(fr83 2).x, 0, none⟩)), (21, .slice x16 y14.length x17), (22, .int .i64 ((y14.length : Nat) : Int)), (23, .int .i64 ((v23_2 : Nat) : Int))]) (mem' := fun fr83 => [(2, o44 x16 x17 y14), (20000, o3 o20000_2 k20000_2 l20000_2), (20001, .cells ((fr83 2).x) 44 [.int .i64 x80.Object, .int .i64 x80.At, .int .i64 x80.N])]) (RunsTo.mk [(0, { act := .idx 2 v23_2 }), (1, { act := .load 2 v23_2 0 [.int .i64 x80.Object, .int .i64 x80.At, .int .i64 x80.N] }), (2, { act := .new .var, key := some 20001 }), (3, { act := .store 0 0 [], key := some 20001 })] [5, 7, 21, 22, 23] [2, 20000, 20001] (fun fr83 => [x16 = x16, y14.length = (List.map S_stripe_Extent.row y14).length, (((v23_2 : Nat) : Int) : Int) = ((v23_2 : Nat) : Int), v23_2 < y14.length, blk x16 = blk x16, offs x16 + v23_2 * 3 = offs x16 + (v23_2 * 3 + 0), (List.map S_stripe_Extent.row y14)[v23_2]? = some [.int .i64 x80.Object, .int .i64 x80.At, .int .i64 x80.N], (fr83 2).x = (fr83 2).x, ((.agg #[.int .i64 x80.Object, .int .i64 x80.At, .int .i64 x80.N]) : Value).cells.toList.all Value.oneCell' = true]) (fun fr83 => by kernel_rfl) (fun fr83 => ⟨rfl, mlen S_stripe_Extent.row y14, rfl, (drop_lt hd78), rfl, rfl, map_drop S_stripe_Extent.row hd78, rfl, rfl, trivial⟩)) ?_
        intro fr83
        refine GS.seq ?_
        refine GS.block ?_
        refine GS.loop ?_
        refine GS.know (p := l20000_2.length ≤ k20000_2) (fun w hw => by first | (have h := (hw.ok 20000 _ rfl).1.1; rw [List.length_map] at h; exact h) | (have h := (hw.ok 20000 _ rfl).1.1; rw [nrows_len] at h; exact h) | simpa using (hw.ok 20000 _ rfl).1.1) (fun k84 => ?_)
        refine GS.rekey (env' := [(5, .slice o20000_2 l20000_2.length k20000_2), (7, .pointer (some ⟨(fr83 2).x, 0, none⟩)), (21, .slice x16 y14.length x17), (22, .int .i64 ((y14.length : Nat) : Int)), (23, .int .i64 ((v23_2 : Nat) : Int))]) (mem' := [(2, o44 x16 x17 y14), (20000, o3 o20000_2 k20000_2 l20000_2), (20001, .cells ((fr83 2).x) 44 [.int .i64 x80.Object, .int .i64 x80.At, .int .i64 x80.N])]) [5, 7, 21, 22, 23] [(2, 2), (20000, 20000), (20001, 20001)] (by kernel_rfl) (by kernel_rfl) rfl ?_
        refine loopW_elim hm (fun st101 hst103 hm => ?_)
        refine GS.loopInv (ι := Nat × List Int × Option Addr × Nat) (I := fun ⟨rs99, l20000_5, o20000_5, k20000_5⟩ => loopW st101 rs99 l20000_5 = some y) (μ := fun ⟨rs99, l20000_5, o20000_5, k20000_5⟩ => rs99) (E := fun ⟨rs99, l20000_5, o20000_5, k20000_5⟩ => [(5, .slice o20000_5 l20000_5.length k20000_5), (7, .pointer (some ⟨(fr83 2).x, 0, none⟩)), (21, .slice x16 y14.length x17), (22, .int .i64 ((y14.length : Nat) : Int)), (23, .int .i64 ((v23_2 : Nat) : Int))]) (M := fun ⟨rs99, l20000_5, o20000_5, k20000_5⟩ => [(2, o44 x16 x17 y14), (20000, o3 o20000_5 k20000_5 l20000_5), (20001, .cells ((fr83 2).x) 44 [.int .i64 x80.Object, .int .i64 x80.At, .int .i64 x80.N])]) ?_ ⟨F, l20000_2, o20000_2, k20000_2⟩ hm
        rintro ⟨rs99, l20000_5, o20000_5, k20000_5⟩ hm ih100
        cases rs99 with
        | zero => cases hm
        | succ rs99 =>
          replace hm := (hst103 _ _).symm.trans hm
          try dsimp only at hm
          refine GS.seq ?_
          refine GS.seq ?_
          refine GS.region (env' := fun _ => [(5, .slice o20000_5 l20000_5.length k20000_5), (7, .pointer (some ⟨(fr83 2).x, 0, none⟩)), (21, .slice x16 y14.length x17), (22, .int .i64 ((y14.length : Nat) : Int)), (23, .int .i64 ((v23_2 : Nat) : Int)), (31, .bool (decide (((l20000_5.length : Nat) : Int) ≤ x80.Object)))]) (mem' := fun _ => [(2, o44 x16 x17 y14), (20000, o3 o20000_5 k20000_5 l20000_5), (20001, .cells ((fr83 2).x) 44 [.int .i64 x80.Object, .int .i64 x80.At, .int .i64 x80.N])]) (RunsTo.mk [(3, { act := .load 20001 0 0 [] })] [5, 7, 21, 22, 23, 31] [2, 20000, 20001] (fun _ => [(fr83 2).x = (fr83 2).x]) (fun _ => by kernel_rfl) (fun _ => ⟨rfl, trivial⟩)) ?_
          intro _
          refine GS.cond (t := decide (((l20000_5.length : Nat) : Int) ≤ x80.Object)) rfl rfl (fun h95 => ?_) (fun h95 => ?_)
          · replace hm := br_t h95 hm
            refine GS.skip ?_
            refine GS.block ?_
            refine grd_elim hm (fun g97 hm => ?_)
            refine GS.region (env' := fun fr96 => [(5, .slice ((fr96 2).ob) ((l20000_5 ++ [0]).length) ((fr96 2).cap)), (7, .pointer (some ⟨(fr83 2).x, 0, none⟩)), (21, .slice x16 y14.length x17), (22, .int .i64 ((y14.length : Nat) : Int)), (23, .int .i64 ((v23_2 : Nat) : Int))]) (mem' := fun fr96 => [(2, o44 x16 x17 y14), (20000, .osl ((fr96 2).ob) ((fr96 2).cap) 3 1 ((List.map rI l20000_5) ++ ([[.int .i64 0]] : List (List Value)))), (20001, .cells ((fr83 2).x) 44 [.int .i64 x80.Object, .int .i64 x80.At, .int .i64 x80.N])]) (RunsTo.mk [(1, { act := .new (.row 1 1), key := some 20002, spf := some (fun f => .slice (some (Addr.mk f.x 0 none)) ([0].length) 1) }), (2, { act := .app (some 20002), key := some 20000, spf := some (fun f => .slice (f.ob) ((l20000_5 ++ [0]).length) (f.cap)) })] [5, 7, 21, 22, 23] [2, 20000, 20001] (fun fr96 => [((.slice (some (Addr.mk (fr96 1).x 0 none)) 1 1) : Value) = .slice (some (Addr.mk (fr96 1).x 0 none)) ([0].length) 1, (some (Addr.mk (fr96 1).x 0 none)) = (some (Addr.mk (fr96 1).x 0 none)), [0].length = ([[.int .i64 0]] : List (List Value)).length, o20000_5 = o20000_5, k20000_5 = k20000_5, l20000_5.length = (List.map rI l20000_5).length, ((List.map rI l20000_5).length + ([[.int .i64 0]] : List (List Value)).length) * (8 + 1) ≤ 70368744177664, ([[.int .i64 0]] : List (List Value)).flatten.all Value.oneCell' = true, ((.slice ((fr96 2).ob) (l20000_5.length + ([[.int .i64 0]] : List (List Value)).length) ((fr96 2).cap)) : Value) = .slice ((fr96 2).ob) ((l20000_5 ++ [0]).length) ((fr96 2).cap)]) (fun fr96 => by kernel_rfl) (fun fr96 => ⟨rfl, rfl, (by rw [show ([[.int .i64 0]] : List (List Value)) = List.map rI [0] from rfl]; exact mlen rI [0]), rfl, rfl, mlen rI l20000_5, appb g97 (mlen rI l20000_5).symm (by rw [show ([[.int .i64 0]] : List (List Value)) = List.map rI [0] from rfl]; exact (mlen rI [0]).symm), (by rw [show ([[.int .i64 0]] : List (List Value)) = List.map rI [0] from (show ([[.int .i64 0]] : List (List Value)) = List.map rI [0] from rfl)]; exact all_one rI _ (fun _ => rfl)), slen (by simp), trivial⟩)) ?_
            intro fr96
            refine GS.conv (mem' := [(2, o44 x16 x17 y14), (20000, o3 ((fr96 2).ob) ((fr96 2).cap) (l20000_5 ++ [0])), (20001, .cells ((fr83 2).x) 44 [.int .i64 x80.Object, .int .i64 x80.At, .int .i64 x80.N])]) rfl (congrArg (fun rr : List (List Value) => ([(2, o44 x16 x17 y14), (20000, .osl ((fr96 2).ob) ((fr96 2).cap) 3 1 rr), (20001, .cells ((fr83 2).x) 44 [.int .i64 x80.Object, .int .i64 x80.At, .int .i64 x80.N])] : List (Nat × Ent))) (show (List.map rI l20000_5) ++ ([[.int .i64 0]] : List (List Value)) = List.map rI (l20000_5 ++ [0]) from (by rw [show List.map rI l20000_5 = List.map rI l20000_5 from rfl, show ([[.int .i64 0]] : List (List Value)) = List.map rI [0] from (show ([[.int .i64 0]] : List (List Value)) = List.map rI [0] from rfl)]; exact mapp rI _ _))) ?_
            refine GS.inBlock ?_
            refine GS.inLoop ?_
            refine GS.rekey (env' := [(5, .slice ((fr96 2).ob) ((l20000_5 ++ [0]).length) ((fr96 2).cap)), (7, .pointer (some ⟨(fr83 2).x, 0, none⟩)), (21, .slice x16 y14.length x17), (22, .int .i64 ((y14.length : Nat) : Int)), (23, .int .i64 ((v23_2 : Nat) : Int))]) (mem' := [(2, o44 x16 x17 y14), (20000, o3 ((fr96 2).ob) ((fr96 2).cap) (l20000_5 ++ [0])), (20001, .cells ((fr83 2).x) 44 [.int .i64 x80.Object, .int .i64 x80.At, .int .i64 x80.N])]) [5, 7, 21, 22, 23] [(2, 2), (20000, 20000), (20001, 20001)] (by kernel_rfl) (by kernel_rfl) rfl ?_
            exact ih100 ⟨rs99, (l20000_5 ++ [0]), (fr96 2).ob, (fr96 2).cap⟩ hm (Nat.lt_succ_self _)
          · replace hm := br_f h95 hm
            refine GS.exit rfl ?_
            refine grd_elim hm (fun g106 hm => ?_)
            refine grd_elim hm (fun g107 hm => ?_)
            refine GS.region (env' := fun _ => [(5, .slice o20000_5 l20000_5.length k20000_5), (21, .slice x16 y14.length x17), (22, .int .i64 ((y14.length : Nat) : Int)), (23, .int .i64 ((v23_2 : Nat) : Int))]) (mem' := fun _ => [(2, o44 x16 x17 y14), (20000, .osl o20000_5 k20000_5 3 1 ((List.map rI l20000_5).set (Int.toNat x80.Object) [.int .i64 ((l20000_5.getD (Int.toNat x80.Object) 0) + x80.N)]))]) (RunsTo.mkd [(2, { act := .load 20001 0 0 [] }), (3, { act := .idx 20000 (Int.toNat x80.Object) }), (4, { act := .load 20000 (Int.toNat x80.Object) 0 [.int .i64 (l20000_5.getD (Int.toNat x80.Object) 0)] }), (6, { act := .load 20001 0 0 [] }), (7, { sp := some (.int .i64 ((l20000_5.getD (Int.toNat x80.Object) 0) + x80.N)) }), (8, { act := .idx 20000 (Int.toNat x80.Object) }), (9, { act := .store (Int.toNat x80.Object) 0 [.int .i64 (l20000_5.getD (Int.toNat x80.Object) 0)], key := some 20000 })] [5, 21, 22, 23] [2, 20000] (fun _ => [(fr83 2).x = (fr83 2).x, o20000_5 = o20000_5, l20000_5.length = (List.map rI l20000_5).length, (x80.Object : Int) = (((Int.toNat x80.Object) : Nat) : Int), (Int.toNat x80.Object) < l20000_5.length, blk o20000_5 = blk o20000_5, offs o20000_5 + (Int.toNat x80.Object) * 1 = offs o20000_5 + ((Int.toNat x80.Object) * 1 + 0), (List.map rI l20000_5)[(Int.toNat x80.Object)]? = some [.int .i64 (l20000_5.getD (Int.toNat x80.Object) 0)], (fr83 2).x = (fr83 2).x, ((.int .i64 (IntKind.i64.wrap ((l20000_5.getD (Int.toNat x80.Object) 0) + x80.N))) : Value) = .int .i64 ((l20000_5.getD (Int.toNat x80.Object) 0) + x80.N), o20000_5 = o20000_5, l20000_5.length = (List.map rI l20000_5).length, (x80.Object : Int) = (((Int.toNat x80.Object) : Nat) : Int), (Int.toNat x80.Object) < l20000_5.length, blk o20000_5 = blk o20000_5, offs o20000_5 + (Int.toNat x80.Object) * 1 = offs o20000_5 + ((Int.toNat x80.Object) * 1 + 0), (List.map rI l20000_5)[(Int.toNat x80.Object)]? = some [.int .i64 (l20000_5.getD (Int.toNat x80.Object) 0)], ((.int .i64 ((l20000_5.getD (Int.toNat x80.Object) 0) + x80.N)) : Value).cells.toList.all Value.oneCell' = true]) (by kernel_rfl) (by kernel_rfl) (fun _ => by kernel_rfl) (fun _ => ⟨rfl, rfl, mlen rI l20000_5, g106.eq, g106.2, rfl, rfl, map_at rI 0 g106.2, rfl, I64.w g107, rfl, mlen rI l20000_5, g106.eq, g106.2, rfl, rfl, map_at rI 0 g106.2, rfl, trivial⟩)) ?_
            intro _
            refine GS.conv (mem' := [(2, o44 x16 x17 y14), (20000, o3 o20000_5 k20000_5 (l20000_5.set (Int.toNat x80.Object) ((l20000_5.getD (Int.toNat x80.Object) 0) + x80.N)))]) rfl (congrArg (fun rr : List (List Value) => ([(2, o44 x16 x17 y14), (20000, .osl o20000_5 k20000_5 3 1 rr)] : List (Nat × Ent))) (show (List.map rI l20000_5).set (Int.toNat x80.Object) [.int .i64 ((l20000_5.getD (Int.toNat x80.Object) 0) + x80.N)] = List.map rI (l20000_5.set (Int.toNat x80.Object) ((l20000_5.getD (Int.toNat x80.Object) 0) + x80.N)) from mset rI l20000_5 (Int.toNat x80.Object) ((l20000_5.getD (Int.toNat x80.Object) 0) + x80.N))) ?_
            refine GS.inBlock ?_
            refine GS.conv (env' := [(5, .slice o20000_5 ((l20000_5.set (Int.toNat x80.Object) ((l20000_5.getD (Int.toNat x80.Object) 0) + x80.N)).length) k20000_5), (21, .slice x16 y14.length x17), (22, .int .i64 ((y14.length : Nat) : Int)), (23, .int .i64 ((v23_2 : Nat) : Int))]) (congrArg (fun vhole : Value => [(5, vhole), (21, .slice x16 y14.length x17), (22, .int .i64 ((y14.length : Nat) : Int)), (23, .int .i64 ((v23_2 : Nat) : Int))]) (show ((.slice o20000_5 l20000_5.length k20000_5) : Value) = .slice o20000_5 ((l20000_5.set (Int.toNat x80.Object) ((l20000_5.getD (Int.toNat x80.Object) 0) + x80.N)).length) k20000_5 from (by simp []))) rfl ?_
            refine GS.region (env' := fun _ => [(5, .slice o20000_5 ((l20000_5.set (Int.toNat x80.Object) ((l20000_5.getD (Int.toNat x80.Object) 0) + x80.N)).length) k20000_5), (21, .slice x16 y14.length x17), (22, .int .i64 ((y14.length : Nat) : Int)), (23, .int .i64 ((v23_2 + 1 : Nat) : Int))]) (mem' := fun _ => [(2, o44 x16 x17 y14), (20000, o3 o20000_5 k20000_5 (l20000_5.set (Int.toNat x80.Object) ((l20000_5.getD (Int.toNat x80.Object) 0) + x80.N)))]) (RunsTo.mk [(0, { sp := some (.int .i64 ((v23_2 + 1 : Nat) : Int)) })] [5, 21, 22, 23] [2, 20000] (fun _ => [((.int .i64 (IntKind.i64.wrap (((v23_2 : Nat) : Int) + 1))) : Value) = .int .i64 ((v23_2 + 1 : Nat) : Int)]) (fun _ => by kernel_rfl) (fun _ => ⟨natw (drop_lt hd78) g79, trivial⟩)) ?_
            intro _
            refine GS.inLoop ?_
            refine GS.rekey (env' := [(5, .slice o20000_5 ((l20000_5.set (Int.toNat x80.Object) ((l20000_5.getD (Int.toNat x80.Object) 0) + x80.N)).length) k20000_5), (21, .slice x16 y14.length x17), (22, .int .i64 ((y14.length : Nat) : Int)), (23, .int .i64 ((v23_2 + 1 : Nat) : Int))]) (mem' := [(2, o44 x16 x17 y14), (20000, o3 o20000_5 k20000_5 (l20000_5.set (Int.toNat x80.Object) ((l20000_5.getD (Int.toNat x80.Object) 0) + x80.N)))]) [5, 21, 22, 23] [(2, 2), (20000, 20000)] (by kernel_rfl) (by kernel_rfl) rfl ?_
            exact ih113 ⟨rs112, v23_2 + 1, (l20000_5.set (Int.toNat x80.Object) ((l20000_5.getD (Int.toNat x80.Object) 0) + x80.N)), o20000_5, k20000_5⟩ ⟨drop_next hd78, hm⟩ (Nat.lt_succ_self _)

theorem w_tholeref01_Ints (F : Nat) (a0_o : Option Addr) (a0_c : Nat) (a0 : List Int) (a1_o : Option Addr) (a1_c : Nat) (a1 : List Int) {y : Bool} (hm : m_tholeref01_Ints F a0 a1 = some y) : CallG Tryd.prog 25 #[.slice a0_o a0.length a0_c, .slice a1_o a1.length a1_c] (X := Unit) (fun (_ : Unit) => .bool y) [] [r3 a0_o a0, r3 a1_o a1] (fun (_ : Unit) => []) := by
  intro w hg
  rw [m_tholeref01_Ints] at hm
  refine GS.start (S := mayT [] [r3 a0_o a0, r3 a1_o a1]) (mem := [(1, r3 a0_o a0), (2, r3 a1_o a1)]) Tryd.func25 rfl Tryd.ntmps25 (Nat.le_of_ble_eq_true rfl) (hg.start rfl) ?_
  refine GS.conv (env' := [(0, .slice a0_o a0.length a0_c), (1, .slice a1_o a1.length a1_c)]) rfl rfl ?_
  refine GS.seq ?_
  refine GS.region (env' := fun _ => [(0, .slice a0_o a0.length a0_c), (1, .slice a1_o a1.length a1_c)]) (mem' := fun _ => [(1, r3 a0_o a0), (2, r3 a1_o a1)]) (RunsTo.mk [] [0, 1] [1, 2] (fun _ => []) (fun _ => by kernel_rfl) (fun _ => trivial)) ?_
  intro _
  refine GS.seq ?_
  refine GS.seq ?_
  refine GS.region (env' := fun _ => [(0, .slice a0_o a0.length a0_c), (1, .slice a1_o a1.length a1_c), (10, .bool (((a0.length : Nat) : Int) != ((a1.length : Nat) : Int)))]) (mem' := fun _ => [(1, r3 a0_o a0), (2, r3 a1_o a1)]) (RunsTo.mk [] [0, 1, 10] [1, 2] (fun _ => []) (fun _ => by kernel_rfl) (fun _ => trivial)) ?_
  intro _
  refine GS.cond (t := ((a0.length : Nat) : Int) != ((a1.length : Nat) : Int)) rfl rfl (fun h3 => ?_) (fun h3 => ?_)
  · replace hm := br_t h3 hm
    refine GS.seq ?_
    refine GS.region (env' := fun _ => [(4, .bool false)]) (mem' := fun _ => []) (RunsTo.mk [] [4] [] (fun _ => []) (fun _ => by kernel_rfl) (fun _ => trivial)) ?_
    intro _
    have hy := Option.some.inj hm
    subst hy
    refine GS.ret (fn := Tryd.f25) [0] [.bool false] [] rfl Tryd.func25 (by kernel_rfl) trivial (fun w' hs => ?_)
    exact ⟨(), rfl, hs.turnedG (ks := []) rfl rfl⟩
  · replace hm := br_f h3 hm
    refine GS.skip ?_
    refine GS.seq ?_
    refine GS.seq ?_
    refine GS.region (env' := fun _ => [(0, .slice a0_o a0.length a0_c), (1, .slice a1_o a1.length a1_c), (12, .int .i64 ((a0.length : Nat) : Int)), (13, .int .i64 0)]) (mem' := fun _ => [(1, r3 a0_o a0), (2, r3 a1_o a1)]) (RunsTo.mk [] [0, 1, 12, 13] [1, 2] (fun _ => []) (fun _ => by kernel_rfl) (fun _ => trivial)) ?_
    intro _
    refine GS.block ?_
    refine GS.loop ?_
    refine grd_elim hm (fun g26 hm => ?_)
    refine GS.rekey (env' := [(0, .slice a0_o a0.length a0_c), (1, .slice a1_o a1.length a1_c), (12, .int .i64 ((a0.length : Nat) : Int)), (13, .int .i64 0)]) (mem' := [(1, r3 a0_o a0), (2, r3 a1_o a1)]) [0, 1, 12, 13] [(1, 1), (2, 2)] (by kernel_rfl) (by kernel_rfl) rfl ?_
    refine loopL_elim hm (fun st41 fn42 hst43 hfn44 hm => ?_)
    refine GS.loopInv (ι := List Int × Nat) (I := fun ⟨rs39, v13_1⟩ => a0.drop v13_1 = rs39 ∧ loopL st41 fn42 rs39 v13_1 () = some y) (μ := fun ⟨rs39, v13_1⟩ => rs39.length) (E := fun ⟨rs39, v13_1⟩ => [(0, .slice a0_o a0.length a0_c), (1, .slice a1_o a1.length a1_c), (12, .int .i64 ((a0.length : Nat) : Int)), (13, .int .i64 ((v13_1 : Nat) : Int))]) (M := fun ⟨rs39, v13_1⟩ => [(1, r3 a0_o a0), (2, r3 a1_o a1)]) ?_ ⟨a0, 0⟩ ⟨List.drop_zero .., hm⟩
    rintro ⟨rs39, v13_1⟩ ⟨hd25, hm⟩ ih40
    cases rs39 with
    | nil =>
      replace hm := (hfn44 _ _).symm.trans hm
      try dsimp only at hm
      refine GS.seq ?_
      refine GS.region (env' := fun _ => [(0, .slice a0_o a0.length a0_c), (1, .slice a1_o a1.length a1_c), (12, .int .i64 ((a0.length : Nat) : Int)), (13, .int .i64 ((v13_1 : Nat) : Int)), (14, .bool (decide (((v13_1 : Nat) : Int) < ((a0.length : Nat) : Int))))]) (mem' := fun _ => [(1, r3 a0_o a0), (2, r3 a1_o a1)]) (RunsTo.mk [] [0, 1, 12, 13, 14] [1, 2] (fun _ => []) (fun _ => by kernel_rfl) (fun _ => trivial)) ?_
      intro _
      refine GS.seq ?_
      refine GS.cond (t := decide (((v13_1 : Nat) : Int) < ((a0.length : Nat) : Int))) rfl rfl (fun h37 => absb h37 (drop_dec0 hd25)) (fun _ => ?_)
      refine GS.exit rfl ?_
      refine GS.seq ?_
      refine GS.region (env' := fun _ => [(4, .bool true)]) (mem' := fun _ => []) (RunsTo.mk [] [4] [] (fun _ => []) (fun _ => by kernel_rfl) (fun _ => trivial)) ?_
      intro _
      have hy := Option.some.inj hm
      subst hy
      refine GS.ret (fn := Tryd.f25) [0] [.bool true] [] rfl Tryd.func25 (by kernel_rfl) trivial (fun w' hs => ?_)
      exact ⟨(), rfl, hs.turnedG (ks := []) rfl rfl⟩
    | cons x27 rs39 =>
      replace hm := (hst43 _ _ _ _).symm.trans hm
      try dsimp only at hm
      refine GS.seq ?_
      refine GS.region (env' := fun _ => [(0, .slice a0_o a0.length a0_c), (1, .slice a1_o a1.length a1_c), (12, .int .i64 ((a0.length : Nat) : Int)), (13, .int .i64 ((v13_1 : Nat) : Int)), (14, .bool (decide (((v13_1 : Nat) : Int) < ((a0.length : Nat) : Int))))]) (mem' := fun _ => [(1, r3 a0_o a0), (2, r3 a1_o a1)]) (RunsTo.mk [] [0, 1, 12, 13, 14] [1, 2] (fun _ => []) (fun _ => by kernel_rfl) (fun _ => trivial)) ?_
      intro _
      refine GS.seq ?_
      refine GS.cond (t := decide (((v13_1 : Nat) : Int) < ((a0.length : Nat) : Int))) rfl rfl (fun _ => ?_) (fun h29 => absb (drop_dec hd25) h29)
      refine GS.skip ?_
      refine GS.seq ?_
      refine GS.block ?_
      refine GS.seq ?_
      refine GS.region (env' := fun _ => [(0, .slice a0_o a0.length a0_c), (1, .slice a1_o a1.length a1_c), (5, .int .i64 ((v13_1 : Nat) : Int)), (12, .int .i64 ((a0.length : Nat) : Int)), (13, .int .i64 ((v13_1 : Nat) : Int))]) (mem' := fun _ => [(1, r3 a0_o a0), (2, r3 a1_o a1)]) (RunsTo.mk [] [0, 1, 5, 12, 13] [1, 2] (fun _ => []) (fun _ => by kernel_rfl) (fun _ => trivial)) ?_
      intro _
      refine GS.seq ?_
      refine grd_elim hm (fun g32 hm => ?_)
      refine GS.region (env' := fun _ => [(0, .slice a0_o a0.length a0_c), (1, .slice a1_o a1.length a1_c), (12, .int .i64 ((a0.length : Nat) : Int)), (13, .int .i64 ((v13_1 : Nat) : Int)), (24, .bool (x27 != (a1.getD v13_1 0)))]) (mem' := fun _ => [(1, r3 a0_o a0), (2, r3 a1_o a1)]) (RunsTo.mkd [(2, { act := .idx 1 v13_1 }), (3, { act := .load 1 v13_1 0 [.int .i64 x27] }), (6, { act := .idx 2 v13_1 }), (7, { act := .load 2 v13_1 0 [.int .i64 (a1.getD v13_1 0)] })] [0, 1, 12, 13, 24] [1, 2] (fun _ => [a0_o = a0_o, a0.length = (List.map rI a0).length, (((v13_1 : Nat) : Int) : Int) = ((v13_1 : Nat) : Int), v13_1 < a0.length, blk a0_o = blk a0_o, offs a0_o + v13_1 * 1 = offs a0_o + (v13_1 * 1 + 0), (List.map rI a0)[v13_1]? = some [.int .i64 x27], a1_o = a1_o, a1.length = (List.map rI a1).length, (((v13_1 : Nat) : Int) : Int) = ((v13_1 : Nat) : Int), v13_1 < a1.length, blk a1_o = blk a1_o, offs a1_o + v13_1 * 1 = offs a1_o + (v13_1 * 1 + 0), (List.map rI a1)[v13_1]? = some [.int .i64 (a1.getD v13_1 0)]]) (by kernel_rfl) (by kernel_rfl) (fun _ => by kernel_rfl) (fun _ => ⟨rfl, mlen rI a0, rfl, (drop_lt hd25), rfl, rfl, map_drop rI hd25, rfl, mlen rI a1, rfl, g32, rfl, rfl, map_at rI 0 g32, trivial⟩)) ?_
      intro _
      refine GS.cond (t := x27 != (a1.getD v13_1 0)) rfl rfl (fun h33 => ?_) (fun h33 => ?_)
      · replace hm := br_t h33 hm
        refine GS.seq ?_
        refine GS.region (env' := fun _ => [(4, .bool false)]) (mem' := fun _ => []) (RunsTo.mk [] [4] [] (fun _ => []) (fun _ => by kernel_rfl) (fun _ => trivial)) ?_
        intro _
        have hy := Option.some.inj hm
        subst hy
        refine GS.ret (fn := Tryd.f25) [0] [.bool false] [] rfl Tryd.func25 (by kernel_rfl) trivial (fun w' hs => ?_)
        exact ⟨(), rfl, hs.turnedG (ks := []) rfl rfl⟩
      · replace hm := br_f h33 hm
        refine GS.skip ?_
        refine GS.inBlock ?_
        refine GS.region (env' := fun _ => [(0, .slice a0_o a0.length a0_c), (1, .slice a1_o a1.length a1_c), (12, .int .i64 ((a0.length : Nat) : Int)), (13, .int .i64 ((v13_1 + 1 : Nat) : Int))]) (mem' := fun _ => [(1, r3 a0_o a0), (2, r3 a1_o a1)]) (RunsTo.mk [(0, { sp := some (.int .i64 ((v13_1 + 1 : Nat) : Int)) })] [0, 1, 12, 13] [1, 2] (fun _ => [((.int .i64 (IntKind.i64.wrap (((v13_1 : Nat) : Int) + 1))) : Value) = .int .i64 ((v13_1 + 1 : Nat) : Int)]) (fun _ => by kernel_rfl) (fun _ => ⟨natw (drop_lt hd25) g26, trivial⟩)) ?_
        intro _
        refine GS.inLoop ?_
        refine GS.rekey (env' := [(0, .slice a0_o a0.length a0_c), (1, .slice a1_o a1.length a1_c), (12, .int .i64 ((a0.length : Nat) : Int)), (13, .int .i64 ((v13_1 + 1 : Nat) : Int))]) (mem' := [(1, r3 a0_o a0), (2, r3 a1_o a1)]) [0, 1, 12, 13] [(1, 1), (2, 2)] (by kernel_rfl) (by kernel_rfl) rfl ?_
        exact ih40 ⟨rs39, v13_1 + 1⟩ ⟨drop_next hd25, hm⟩ (Nat.lt_succ_self _)

theorem w_stripe_Back (F : Nat) (a0 : S_stripe_Layout) (a1 : Int) (a2 : Int) {y : Int} (hm : m_stripe_Back F a0 a1 a2 = some y) : CallG Tryd.prog 14 #[.agg #[.int .i64 a0.Unit, .int .i64 a0.Count, .int .i64 a0.Size], .int .i64 a1, .int .i64 a2] (X := Unit) (fun (_ : Unit) => .int .i64 y) [] [] (fun (_ : Unit) => []) := by
  intro w hg
  rw [m_stripe_Back] at hm
  refine GS.start (S := mayT [] []) (mem := []) Tryd.func14 rfl Tryd.ntmps14 (Nat.le_of_ble_eq_true rfl) (hg.start rfl) ?_
  refine GS.conv (env' := [(0, .agg #[.int .i64 a0.Unit, .int .i64 a0.Count, .int .i64 a0.Size]), (1, .int .i64 a1), (2, .int .i64 a2)]) rfl rfl ?_
  refine GS.seq ?_
  refine GS.region (env' := fun fr1 => [(1, .int .i64 a1), (2, .int .i64 a2), (3, .pointer (some ⟨(fr1 0).x, 0, none⟩))]) (mem' := fun fr1 => [(1, .cells ((fr1 0).x) 23 [.int .i64 a0.Unit, .int .i64 a0.Count, .int .i64 a0.Size])]) (RunsTo.mk [(0, { act := .new .var, key := some 1 })] [1, 2, 3] [1] (fun fr1 => []) (fun fr1 => by kernel_rfl) (fun fr1 => trivial)) ?_
  intro fr1
  refine GS.seq ?_
  refine GS.block ?_
  refine GS.seq ?_
  refine bnd_elim hm (fun y3 e4 hm => ?_)
  refine GS.region (env' := fun _ => [(1, .int .i64 a1), (2, .int .i64 a2), (3, .pointer (some ⟨(fr1 0).x, 0, none⟩)), (9, .bool (!y3))]) (mem' := fun _ => [(1, .cells ((fr1 0).x) 23 [.int .i64 a0.Unit, .int .i64 a0.Count, .int .i64 a0.Size])]) (RunsTo.mk [(0, { act := .load 1 0 0 [] }), (1, { act := .call [] (.bool y3) })] [1, 2, 3, 9] [1] (fun _ => [(fr1 0).x = (fr1 0).x, CallOK Tryd.prog 12 #[.agg #[.int .i64 a0.Unit, .int .i64 a0.Count, .int .i64 a0.Size]] (.bool y3) []]) (fun _ => by kernel_rfl) (fun _ => ⟨rfl, (w_stripe_Good F a0 e4).ok trivial, trivial⟩)) ?_
  intro _
  refine GS.cond (t := !y3) rfl rfl (fun h5 => ?_) (fun h5 => ?_)
  · replace hm := br_t h5 hm
    refine GS.seq ?_
    refine GS.region (env' := fun _ => [(6, .int .i64 0)]) (mem' := fun _ => []) (RunsTo.mk [] [6] [] (fun _ => []) (fun _ => by kernel_rfl) (fun _ => trivial)) ?_
    intro _
    have hy := Option.some.inj hm
    subst hy
    refine GS.ret (fn := Tryd.f14) [0] [.int .i64 0] [] rfl Tryd.func14 (by kernel_rfl) trivial (fun w' hs => ?_)
    exact ⟨(), rfl, hs.turnedG (ks := []) rfl rfl⟩
  · replace hm := br_f h5 hm
    refine GS.seq ?_
    refine jn_elim hm (fun J12 hJ14 hm => ?_)
    refine GS.cut (ι := Bool) (I := fun (v13_1 : Bool) => J12 v13_1 = some y) (E := fun (v13_1 : Bool) => [(1, .int .i64 a1), (2, .int .i64 a2), (3, .pointer (some ⟨(fr1 0).x, 0, none⟩)), (13, .bool v13_1)]) (M := fun (v13_1 : Bool) => [(1, .cells ((fr1 0).x) 23 [.int .i64 a0.Unit, .int .i64 a0.Count, .int .i64 a0.Size])]) ?_ ?_
    rotate_left
    · intro H13
      refine br_elim hm (fun h8 hm => ?_) (fun h8 hm => ?_)
      · skip
        refine GS.region (env' := fun _ => [(1, .int .i64 a1), (2, .int .i64 a2), (3, .pointer (some ⟨(fr1 0).x, 0, none⟩)), (13, .bool true)]) (mem' := fun _ => [(1, .cells ((fr1 0).x) 23 [.int .i64 a0.Unit, .int .i64 a0.Count, .int .i64 a0.Size])]) (RunsTo.mk [(2, { sp := some (.bool true) })] [1, 2, 3, 13] [1] (fun _ => [((.bool (decide (a2 < 0))) : Value) = .bool true]) (fun _ => by kernel_rfl) (fun _ => ⟨bool_eq h8, trivial⟩)) ?_
        intro _
        refine GS.rekey (env' := [(1, .int .i64 a1), (2, .int .i64 a2), (3, .pointer (some ⟨(fr1 0).x, 0, none⟩)), (13, .bool true)]) (mem' := [(1, .cells ((fr1 0).x) 23 [.int .i64 a0.Unit, .int .i64 a0.Count, .int .i64 a0.Size])]) [1, 2, 3, 13] [(1, 1)] (by kernel_rfl) (by kernel_rfl) rfl ?_
        exact H13 true hm
      · skip
        refine br_elim hm (fun h9 hm => ?_) (fun h9 hm => ?_)
        · skip
          refine GS.region (env' := fun _ => [(1, .int .i64 a1), (2, .int .i64 a2), (3, .pointer (some ⟨(fr1 0).x, 0, none⟩)), (13, .bool true)]) (mem' := fun _ => [(1, .cells ((fr1 0).x) 23 [.int .i64 a0.Unit, .int .i64 a0.Count, .int .i64 a0.Size])]) (RunsTo.mk [(2, { sp := some (.bool false) }), (5, { act := .load 1 0 0 [] }), (8, { sp := some (.bool true) })] [1, 2, 3, 13] [1] (fun _ => [((.bool (decide (a2 < 0))) : Value) = .bool false, (fr1 0).x = (fr1 0).x, ((.bool (decide (a2 ≥ a0.Size))) : Value) = .bool true]) (fun _ => by kernel_rfl) (fun _ => ⟨bool_eq h8, rfl, bool_eq h9, trivial⟩)) ?_
          intro _
          refine GS.rekey (env' := [(1, .int .i64 a1), (2, .int .i64 a2), (3, .pointer (some ⟨(fr1 0).x, 0, none⟩)), (13, .bool true)]) (mem' := [(1, .cells ((fr1 0).x) 23 [.int .i64 a0.Unit, .int .i64 a0.Count, .int .i64 a0.Size])]) [1, 2, 3, 13] [(1, 1)] (by kernel_rfl) (by kernel_rfl) rfl ?_
          exact H13 true hm
        · skip
          refine br_elim hm (fun h10 hm => ?_) (fun h10 hm => ?_)
          · skip
            refine GS.region (env' := fun _ => [(1, .int .i64 a1), (2, .int .i64 a2), (3, .pointer (some ⟨(fr1 0).x, 0, none⟩)), (13, .bool true)]) (mem' := fun _ => [(1, .cells ((fr1 0).x) 23 [.int .i64 a0.Unit, .int .i64 a0.Count, .int .i64 a0.Size])]) (RunsTo.mk [(2, { sp := some (.bool false) }), (5, { act := .load 1 0 0 [] }), (8, { sp := some (.bool false) }), (12, { sp := some (.bool true) })] [1, 2, 3, 13] [1] (fun _ => [((.bool (decide (a2 < 0))) : Value) = .bool false, (fr1 0).x = (fr1 0).x, ((.bool (decide (a2 ≥ a0.Size))) : Value) = .bool false, ((.bool (decide (a1 < 0))) : Value) = .bool true]) (fun _ => by kernel_rfl) (fun _ => ⟨bool_eq h8, rfl, bool_eq h9, bool_eq h10, trivial⟩)) ?_
            intro _
            refine GS.rekey (env' := [(1, .int .i64 a1), (2, .int .i64 a2), (3, .pointer (some ⟨(fr1 0).x, 0, none⟩)), (13, .bool true)]) (mem' := [(1, .cells ((fr1 0).x) 23 [.int .i64 a0.Unit, .int .i64 a0.Count, .int .i64 a0.Size])]) [1, 2, 3, 13] [(1, 1)] (by kernel_rfl) (by kernel_rfl) rfl ?_
            exact H13 true hm
          · skip
            refine grd_elim hm (fun g11 hm => ?_)
            refine GS.region (env' := fun _ => [(1, .int .i64 a1), (2, .int .i64 a2), (3, .pointer (some ⟨(fr1 0).x, 0, none⟩)), (13, .bool (decide (a1 ≥ (65536 * a0.Count))))]) (mem' := fun _ => [(1, .cells ((fr1 0).x) 23 [.int .i64 a0.Unit, .int .i64 a0.Count, .int .i64 a0.Size])]) (RunsTo.mk [(2, { sp := some (.bool false) }), (5, { act := .load 1 0 0 [] }), (8, { sp := some (.bool false) }), (12, { sp := some (.bool false) }), (15, { act := .load 1 0 0 [] }), (16, { sp := some (.int .i64 (65536 * a0.Count)) })] [1, 2, 3, 13] [1] (fun _ => [((.bool (decide (a2 < 0))) : Value) = .bool false, (fr1 0).x = (fr1 0).x, ((.bool (decide (a2 ≥ a0.Size))) : Value) = .bool false, ((.bool (decide (a1 < 0))) : Value) = .bool false, (fr1 0).x = (fr1 0).x, ((.int .i64 (IntKind.i64.wrap (65536 * a0.Count))) : Value) = .int .i64 (65536 * a0.Count)]) (fun _ => by kernel_rfl) (fun _ => ⟨bool_eq h8, rfl, bool_eq h9, bool_eq h10, rfl, I64.w g11, trivial⟩)) ?_
            intro _
            refine GS.rekey (env' := [(1, .int .i64 a1), (2, .int .i64 a2), (3, .pointer (some ⟨(fr1 0).x, 0, none⟩)), (13, .bool (decide (a1 ≥ (65536 * a0.Count))))]) (mem' := [(1, .cells ((fr1 0).x) 23 [.int .i64 a0.Unit, .int .i64 a0.Count, .int .i64 a0.Size])]) [1, 2, 3, 13] [(1, 1)] (by kernel_rfl) (by kernel_rfl) rfl ?_
            exact H13 (decide (a1 ≥ (65536 * a0.Count))) hm
    · rintro v13_1 hm
      replace hm := (hJ14 _).symm.trans hm
      try dsimp only at hm
      refine GS.cond (t := v13_1) rfl rfl (fun h15 => ?_) (fun h15 => ?_)
      · replace hm := br_t h15 hm
        refine GS.seq ?_
        refine GS.region (env' := fun _ => [(6, .int .i64 (-1))]) (mem' := fun _ => []) (RunsTo.mk [] [6] [] (fun _ => []) (fun _ => by kernel_rfl) (fun _ => trivial)) ?_
        intro _
        have hy := Option.some.inj hm
        subst hy
        refine GS.ret (fn := Tryd.f14) [0] [.int .i64 (-1)] [] rfl Tryd.func14 (by kernel_rfl) trivial (fun w' hs => ?_)
        exact ⟨(), rfl, hs.turnedG (ks := []) rfl rfl⟩
      · replace hm := br_f h15 hm
        refine GS.skip ?_
        refine GS.inBlock ?_
        refine GS.seq ?_
        refine grd_elim hm (fun g18 hm => ?_)
        refine grd_elim hm (fun g19 hm => ?_)
        refine bnd_elim hm (fun y20 e21 hm => ?_)
        refine grd_elim hm (fun g22 hm => ?_)
        refine grd_elim hm (fun g23 hm => ?_)
        refine grd_elim hm (fun g24 hm => ?_)
        refine grd_elim hm (fun g25 hm => ?_)
        refine grd_elim hm (fun g26 hm => ?_)
        refine grd_elim hm (fun g27 hm => ?_)
        refine GS.region (env' := fun _ => [(2, .int .i64 a2), (3, .pointer (some ⟨(fr1 0).x, 0, none⟩)), (7, .int .i64 ((((Int.tdiv a1 a0.Count) * y20) + ((Int.tdiv a2 a0.Unit) * a0.Count)) + (Int.tmod a1 a0.Count)))]) (mem' := fun _ => [(1, .cells ((fr1 0).x) 23 [.int .i64 a0.Unit, .int .i64 a0.Count, .int .i64 a0.Size])]) (RunsTo.mkd [(2, { act := .load 1 0 0 [] }), (3, { act := .div, sp := some (.int .i64 (Int.tdiv a1 a0.Count)) }), (4, { act := .load 1 0 0 [] }), (5, { act := .call [] (.int .i64 y20) }), (6, { sp := some (.int .i64 ((Int.tdiv a1 a0.Count) * y20)) }), (9, { act := .load 1 0 0 [] }), (10, { act := .div, sp := some (.int .i64 (Int.tdiv a2 a0.Unit)) }), (12, { act := .load 1 0 0 [] }), (13, { sp := some (.int .i64 ((Int.tdiv a2 a0.Unit) * a0.Count)) }), (14, { sp := some (.int .i64 (((Int.tdiv a1 a0.Count) * y20) + ((Int.tdiv a2 a0.Unit) * a0.Count))) }), (17, { act := .load 1 0 0 [] }), (18, { act := .div }), (19, { sp := some (.int .i64 ((((Int.tdiv a1 a0.Count) * y20) + ((Int.tdiv a2 a0.Unit) * a0.Count)) + (Int.tmod a1 a0.Count))) })] [2, 3, 7] [1] (fun _ => [(fr1 0).x = (fr1 0).x, a0.Count ≠ 0, ((.int .i64 (IntKind.i64.wrap (Int.tdiv a1 a0.Count))) : Value) = .int .i64 (Int.tdiv a1 a0.Count), (fr1 0).x = (fr1 0).x, CallOK Tryd.prog 36 #[.agg #[.int .i64 a0.Unit, .int .i64 a0.Count, .int .i64 a0.Size]] (.int .i64 y20) [], ((.int .i64 (IntKind.i64.wrap ((Int.tdiv a1 a0.Count) * y20))) : Value) = .int .i64 ((Int.tdiv a1 a0.Count) * y20), (fr1 0).x = (fr1 0).x, a0.Unit ≠ 0, ((.int .i64 (IntKind.i64.wrap (Int.tdiv a2 a0.Unit))) : Value) = .int .i64 (Int.tdiv a2 a0.Unit), (fr1 0).x = (fr1 0).x, ((.int .i64 (IntKind.i64.wrap ((Int.tdiv a2 a0.Unit) * a0.Count))) : Value) = .int .i64 ((Int.tdiv a2 a0.Unit) * a0.Count), ((.int .i64 (IntKind.i64.wrap (((Int.tdiv a1 a0.Count) * y20) + ((Int.tdiv a2 a0.Unit) * a0.Count)))) : Value) = .int .i64 (((Int.tdiv a1 a0.Count) * y20) + ((Int.tdiv a2 a0.Unit) * a0.Count)), (fr1 0).x = (fr1 0).x, a0.Count ≠ 0, ((.int .i64 (IntKind.i64.wrap ((((Int.tdiv a1 a0.Count) * y20) + ((Int.tdiv a2 a0.Unit) * a0.Count)) + (Int.tmod a1 a0.Count)))) : Value) = .int .i64 ((((Int.tdiv a1 a0.Count) * y20) + ((Int.tdiv a2 a0.Unit) * a0.Count)) + (Int.tmod a1 a0.Count))]) (by kernel_rfl) (by kernel_rfl) (fun _ => by kernel_rfl) (fun _ => ⟨rfl, g18, I64.w g19, rfl, (w__stripe_Layout__set F a0 e21).ok trivial, I64.w g22, rfl, g23, I64.w g24, rfl, I64.w g25, I64.w g26, rfl, g18, I64.w g27, trivial⟩)) ?_
        intro _
        refine GS.seq ?_
        refine GS.seq ?_
        refine GS.region (env' := fun _ => [(2, .int .i64 a2), (3, .pointer (some ⟨(fr1 0).x, 0, none⟩)), (7, .int .i64 ((((Int.tdiv a1 a0.Count) * y20) + ((Int.tdiv a2 a0.Unit) * a0.Count)) + (Int.tmod a1 a0.Count))), (54, .bool (decide (((((Int.tdiv a1 a0.Count) * y20) + ((Int.tdiv a2 a0.Unit) * a0.Count)) + (Int.tmod a1 a0.Count)) ≥ 65536)))]) (mem' := fun _ => [(1, .cells ((fr1 0).x) 23 [.int .i64 a0.Unit, .int .i64 a0.Count, .int .i64 a0.Size])]) (RunsTo.mk [] [2, 3, 7, 54] [1] (fun _ => []) (fun _ => by kernel_rfl) (fun _ => trivial)) ?_
        intro _
        refine GS.cond (t := decide (((((Int.tdiv a1 a0.Count) * y20) + ((Int.tdiv a2 a0.Unit) * a0.Count)) + (Int.tmod a1 a0.Count)) ≥ 65536)) rfl rfl (fun h29 => ?_) (fun h29 => ?_)
        · replace hm := br_t h29 hm
          refine GS.seq ?_
          refine GS.region (env' := fun _ => [(6, .int .i64 (-1))]) (mem' := fun _ => []) (RunsTo.mk [] [6] [] (fun _ => []) (fun _ => by kernel_rfl) (fun _ => trivial)) ?_
          intro _
          have hy := Option.some.inj hm
          subst hy
          refine GS.ret (fn := Tryd.f14) [0] [.int .i64 (-1)] [] rfl Tryd.func14 (by kernel_rfl) trivial (fun w' hs => ?_)
          exact ⟨(), rfl, hs.turnedG (ks := []) rfl rfl⟩
        · replace hm := br_f h29 hm
          refine GS.skip ?_
          refine GS.seq ?_
          refine GS.seq ?_
          refine grd_elim hm (fun g32 hm => ?_)
          refine grd_elim hm (fun g33 hm => ?_)
          refine GS.region (env' := fun _ => [(8, .int .i64 ((((((Int.tdiv a1 a0.Count) * y20) + ((Int.tdiv a2 a0.Unit) * a0.Count)) + (Int.tmod a1 a0.Count)) * a0.Unit) + (Int.tmod a2 a0.Unit)))]) (mem' := fun _ => []) (RunsTo.mkd [(2, { act := .load 1 0 0 [] }), (3, { sp := some (.int .i64 (((((Int.tdiv a1 a0.Count) * y20) + ((Int.tdiv a2 a0.Unit) * a0.Count)) + (Int.tmod a1 a0.Count)) * a0.Unit)) }), (6, { act := .load 1 0 0 [] }), (7, { act := .div }), (8, { sp := some (.int .i64 ((((((Int.tdiv a1 a0.Count) * y20) + ((Int.tdiv a2 a0.Unit) * a0.Count)) + (Int.tmod a1 a0.Count)) * a0.Unit) + (Int.tmod a2 a0.Unit))) })] [8] [] (fun _ => [(fr1 0).x = (fr1 0).x, ((.int .i64 (IntKind.i64.wrap (((((Int.tdiv a1 a0.Count) * y20) + ((Int.tdiv a2 a0.Unit) * a0.Count)) + (Int.tmod a1 a0.Count)) * a0.Unit))) : Value) = .int .i64 (((((Int.tdiv a1 a0.Count) * y20) + ((Int.tdiv a2 a0.Unit) * a0.Count)) + (Int.tmod a1 a0.Count)) * a0.Unit), (fr1 0).x = (fr1 0).x, a0.Unit ≠ 0, ((.int .i64 (IntKind.i64.wrap ((((((Int.tdiv a1 a0.Count) * y20) + ((Int.tdiv a2 a0.Unit) * a0.Count)) + (Int.tmod a1 a0.Count)) * a0.Unit) + (Int.tmod a2 a0.Unit)))) : Value) = .int .i64 ((((((Int.tdiv a1 a0.Count) * y20) + ((Int.tdiv a2 a0.Unit) * a0.Count)) + (Int.tmod a1 a0.Count)) * a0.Unit) + (Int.tmod a2 a0.Unit))]) (by kernel_rfl) (by kernel_rfl) (fun _ => by kernel_rfl) (fun _ => ⟨rfl, I64.w g32, rfl, g23, I64.w g33, trivial⟩)) ?_
          intro _
          refine GS.seq ?_
          refine GS.region (env' := fun _ => [(8, .int .i64 ((((((Int.tdiv a1 a0.Count) * y20) + ((Int.tdiv a2 a0.Unit) * a0.Count)) + (Int.tmod a1 a0.Count)) * a0.Unit) + (Int.tmod a2 a0.Unit))), (65, .bool (decide (((((((Int.tdiv a1 a0.Count) * y20) + ((Int.tdiv a2 a0.Unit) * a0.Count)) + (Int.tmod a1 a0.Count)) * a0.Unit) + (Int.tmod a2 a0.Unit)) < 65536)))]) (mem' := fun _ => []) (RunsTo.mk [] [8, 65] [] (fun _ => []) (fun _ => by kernel_rfl) (fun _ => trivial)) ?_
          intro _
          refine GS.cond (t := decide (((((((Int.tdiv a1 a0.Count) * y20) + ((Int.tdiv a2 a0.Unit) * a0.Count)) + (Int.tmod a1 a0.Count)) * a0.Unit) + (Int.tmod a2 a0.Unit)) < 65536)) rfl rfl (fun h35 => ?_) (fun h35 => ?_)
          · replace hm := br_t h35 hm
            refine GS.seq ?_
            refine GS.region (env' := fun _ => [(6, .int .i64 ((((((Int.tdiv a1 a0.Count) * y20) + ((Int.tdiv a2 a0.Unit) * a0.Count)) + (Int.tmod a1 a0.Count)) * a0.Unit) + (Int.tmod a2 a0.Unit)))]) (mem' := fun _ => []) (RunsTo.mk [] [6] [] (fun _ => []) (fun _ => by kernel_rfl) (fun _ => trivial)) ?_
            intro _
            have hy := Option.some.inj hm
            subst hy
            refine GS.ret (fn := Tryd.f14) [0] [.int .i64 ((((((Int.tdiv a1 a0.Count) * y20) + ((Int.tdiv a2 a0.Unit) * a0.Count)) + (Int.tmod a1 a0.Count)) * a0.Unit) + (Int.tmod a2 a0.Unit))] [] rfl Tryd.func14 (by kernel_rfl) trivial (fun w' hs => ?_)
            exact ⟨(), rfl, hs.turnedG (ks := []) rfl rfl⟩
          · replace hm := br_f h35 hm
            refine GS.skip ?_
            refine GS.seq ?_
            refine GS.region (env' := fun _ => [(6, .int .i64 (-1))]) (mem' := fun _ => []) (RunsTo.mk [] [6] [] (fun _ => []) (fun _ => by kernel_rfl) (fun _ => trivial)) ?_
            intro _
            have hy := Option.some.inj hm
            subst hy
            refine GS.ret (fn := Tryd.f14) [0] [.int .i64 (-1)] [] rfl Tryd.func14 (by kernel_rfl) trivial (fun w' hs => ?_)
            exact ⟨(), rfl, hs.turnedG (ks := []) rfl rfl⟩

theorem w_stripe_Name (F : Nat) (a0 : ByteArray) (a1 : Int) {y : ByteArray} (hm : m_stripe_Name F a0 a1 = some y) : CallG Tryd.prog 19 #[.string a0, .int .i64 a1] (X := Unit) (fun (_ : Unit) => .string y) [] [] (fun (_ : Unit) => []) := by
  intro w hg
  rw [m_stripe_Name] at hm
  refine GS.start (S := mayT [] []) (mem := []) Tryd.func19 rfl Tryd.ntmps19 (Nat.le_of_ble_eq_true rfl) (hg.start rfl) ?_
  refine GS.conv (env' := [(0, .string a0), (1, .int .i64 a1)]) rfl rfl ?_
  refine GS.seq ?_
  refine GS.region (env' := fun _ => [(0, .string a0), (1, .int .i64 a1)]) (mem' := fun _ => []) (RunsTo.mk [] [0, 1] [] (fun _ => []) (fun _ => by kernel_rfl) (fun _ => trivial)) ?_
  intro _
  refine GS.seq ?_
  refine GS.seq ?_
  refine GS.region (env' := fun _ => [(0, .string a0), (1, .int .i64 a1), (6, .bool (decide (a1 < 0)))]) (mem' := fun _ => []) (RunsTo.mk [] [0, 1, 6] [] (fun _ => []) (fun _ => by kernel_rfl) (fun _ => trivial)) ?_
  intro _
  refine GS.cond (t := decide (a1 < 0)) rfl rfl (fun h3 => ?_) (fun h3 => ?_)
  · replace hm := br_t h3 hm
    refine GS.seq ?_
    refine GS.region (env' := fun _ => [(4, .string (ByteArray.mk #[]))]) (mem' := fun _ => []) (RunsTo.mk [] [4] [] (fun _ => []) (fun _ => by kernel_rfl) (fun _ => trivial)) ?_
    intro _
    have hy := Option.some.inj hm
    subst hy
    refine GS.ret (fn := Tryd.f19) [0] [.string (ByteArray.mk #[])] [] rfl Tryd.func19 (by kernel_rfl) trivial (fun w' hs => ?_)
    exact ⟨(), rfl, hs.turnedG (ks := []) rfl rfl⟩
  · replace hm := br_f h3 hm
    refine GS.skip ?_
    refine GS.seq ?_
    refine grd_elim hm (fun g6 hm => ?_)
    refine bnd_elim hm (fun y7 e8 hm => ?_)
    refine grd_elim hm (fun g9 hm => ?_)
    refine GS.region (env' := fun _ => [(4, .string ((a0 ++ (ByteArray.mk #[46])) ++ y7))]) (mem' := fun _ => []) (RunsTo.mk [(1, { act := .cat }), (3, { act := .call [] (.string y7) }), (4, { act := .cat })] [4] [] (fun _ => [a0.size + (ByteArray.mk #[46]).size ≤ 9223372036854775807, CallOK Tryd.prog 39 #[.int .i64 a1] (.string y7) [], (a0 ++ (ByteArray.mk #[46])).size + y7.size ≤ 9223372036854775807]) (fun _ => by kernel_rfl) (fun _ => ⟨g6, (w_strconv_Itoa F a1 e8).ok trivial, g9, trivial⟩)) ?_
    intro _
    have hy := Option.some.inj hm
    subst hy
    refine GS.ret (fn := Tryd.f19) [0] [.string ((a0 ++ (ByteArray.mk #[46])) ++ y7)] [] rfl Tryd.func19 (by kernel_rfl) trivial (fun w' hs => ?_)
    exact ⟨(), rfl, hs.turnedG (ks := []) rfl rfl⟩

end Go.Proofs.YtfdojammchbboaaDoor
