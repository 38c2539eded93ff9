/-
  CHAPTER 20r: the functions do what their models say (3).
-/
import Derived.Test.YticlccnajfjdeaaM20r
import Derived.Test.YticlccnajfjdeaaW20ra
import Derived.Test.YticlccnajfjdeaaW20rb
set_option linter.unusedVariables false
set_option linter.unusedSimpArgs false
set_option maxRecDepth 100000
namespace Go.Proofs.Yticlccnajfjdeaa
open Go Go.RowKit Sx

theorem w_slices_stableCmpFunc_api_Item_ (F : Nat) (a0_o : Option Addr) (a0_c : Nat) (a0 : List S_api_Item) (a1 : Int) {y : List S_api_Item} (hm : m_slices_stableCmpFunc_api_Item_ F a0 a1 = some y) : CallG Try.prog 50 #[.slice a0_o a0.length a0_c, .int .i64 a1, .func (.func 46) #[] #[]] (X := Unit) (fun (_ : Unit) => .tuple #[]) [o48 a0_o a0_c a0] [] (fun (_ : Unit) => [o48 a0_o a0_c y]) := by
  intro w hg
  rw [m_slices_stableCmpFunc_api_Item_] at hm
  refine GS.start (S := mayT [o48 a0_o a0_c a0] []) (mem := [(1, o48 a0_o a0_c a0)]) Try.func50 rfl Try.ntmps50 (Nat.le_of_ble_eq_true rfl) (hg.start rfl) ?_
  refine GS.conv (env' := [(0, .slice a0_o a0.length a0_c), (1, .int .i64 a1), (2, .func (.func 46) #[] #[])]) rfl rfl ?_
  refine GS.seq ?_
  refine GS.region (env' := fun _ => [(0, .slice a0_o a0.length a0_c), (1, .int .i64 a1), (2, .func (.func 46) #[] #[]), (6, .int .i64 20)]) (mem' := fun _ => [(1, o48 a0_o a0_c a0)]) (RunsTo.mk [] [0, 1, 2, 6] [1] (fun _ => []) (fun _ => by kernel_rfl) (fun _ => trivial)) ?_
  intro _
  refine GS.seq ?_
  refine GS.region (env' := fun _ => [(0, .slice a0_o a0.length a0_c), (1, .int .i64 a1), (2, .func (.func 46) #[] #[]), (6, .int .i64 20), (7, .int .i64 0), (8, .int .i64 20)]) (mem' := fun _ => [(1, o48 a0_o a0_c a0)]) (RunsTo.mk [] [0, 1, 2, 6, 7, 8] [1] (fun _ => []) (fun _ => by kernel_rfl) (fun _ => trivial)) ?_
  intro _
  refine GS.seq ?_
  refine GS.block ?_
  refine GS.loop ?_
  refine GS.rekey (env' := [(0, .slice a0_o a0.length a0_c), (1, .int .i64 a1), (2, .func (.func 46) #[] #[]), (6, .int .i64 20), (7, .int .i64 0), (8, .int .i64 20)]) (mem' := [(1, o48 a0_o a0_c a0)]) [0, 1, 2, 6, 7, 8] [(1, 1)] (by kernel_rfl) (by kernel_rfl) rfl ?_
  refine loopW_elim hm (fun st36 hst38 hm => ?_)
  refine GS.loopInv (ι := Nat × Nat × Nat × List S_api_Item) (I := fun ⟨rs34, v7_1, v8_1, l1_1⟩ => loopW st36 rs34 (v7_1, v8_1, l1_1) = some y) (μ := fun ⟨rs34, v7_1, v8_1, l1_1⟩ => rs34) (E := fun ⟨rs34, v7_1, v8_1, l1_1⟩ => [(0, .slice a0_o l1_1.length a0_c), (1, .int .i64 a1), (2, .func (.func 46) #[] #[]), (6, .int .i64 20), (7, .int .i64 ((v7_1 : Nat) : Int)), (8, .int .i64 ((v8_1 : Nat) : Int))]) (M := fun ⟨rs34, v7_1, v8_1, l1_1⟩ => [(1, o48 a0_o a0_c l1_1)]) ?_ ⟨F, 0, 20, a0⟩ hm
  rintro ⟨rs34, v7_1, v8_1, l1_1⟩ hm ih35
  cases rs34 with
  | zero => cases hm
  | succ rs34 =>
    replace hm := (hst38 _ _).symm.trans hm
    try dsimp only at hm
    refine GS.seq ?_
    refine GS.seq ?_
    refine GS.region (env' := fun _ => [(0, .slice a0_o l1_1.length a0_c), (1, .int .i64 a1), (2, .func (.func 46) #[] #[]), (6, .int .i64 20), (7, .int .i64 ((v7_1 : Nat) : Int)), (8, .int .i64 ((v8_1 : Nat) : Int)), (13, .bool (decide (((v8_1 : Nat) : Int) ≤ a1)))]) (mem' := fun _ => [(1, o48 a0_o a0_c l1_1)]) (RunsTo.mk [] [0, 1, 2, 6, 7, 8, 13] [1] (fun _ => []) (fun _ => by kernel_rfl) (fun _ => trivial)) ?_
    intro _
    refine GS.cond (t := decide (((v8_1 : Nat) : Int) ≤ a1)) rfl rfl (fun h24 => ?_) (fun h24 => ?_)
    · replace hm := br_t h24 hm
      refine GS.skip ?_
      refine GS.block ?_
      refine GS.seq ?_
      refine bnd_elim hm (fun y26 e27 hm => ?_)
      refine grd_elim hm (fun g28 hm => ?_)
      refine GS.open_ ?_
      refine GR.run (i := 0) 4 (env' := fun _ => [(0, .slice a0_o l1_1.length a0_c), (1, .int .i64 a1), (2, .func (.func 46) #[] #[]), (6, .int .i64 20), (8, .int .i64 ((v8_1 : Nat) : Int)), (14, .slice a0_o l1_1.length a0_c), (15, .int .i64 ((v7_1 : Nat) : Int)), (16, .int .i64 ((v8_1 : Nat) : Int)), (17, .func (.func 46) #[] #[])]) (mem' := fun _ => [(1, o48 a0_o a0_c l1_1)]) (Nat.le_of_ble_eq_true (by kernel_rfl)) (RunsTo.mk [] [0, 1, 2, 6, 8, 14, 15, 16, 17] [1] (fun _ => []) (fun _ => by kernel_rfl) (fun _ => trivial)) ?_
      intro _
      refine GR.callG (X := Unit) (i := 4) (g := 52) (args := #[.slice a0_o l1_1.length a0_c, .int .i64 ((v7_1 : Nat) : Int), .int .i64 ((v8_1 : Nat) : Int), .func (.func 46) #[] #[]]) (v := fun (_ : Unit) => .tuple #[]) (own := [o48 a0_o a0_c l1_1]) (ro := []) (es' := fun (_ : Unit) => [o48 a0_o a0_c y26]) (mem' := fun (_ : Unit) => [(1, o48 a0_o a0_c y26)]) (env' := fun (_ : Unit) => [(0, .slice a0_o l1_1.length a0_c), (1, .int .i64 a1), (2, .func (.func 46) #[] #[]), (6, .int .i64 20), (8, .int .i64 ((v8_1 : Nat) : Int))]) [1] [1] [0, 1, 2, 6, 8] [1] false (by kernel_rfl) (by kernel_rfl) (by kernel_rfl) (by kernel_rfl) (by kernel_rfl) (fun _ => rfl) (fun _ _ => rfl) trivial (by rintro _; kernel_rfl) (by rintro _; kernel_rfl) (w_slices_insertionSortCmpFunc_api_Item_ F a0_o a0_c l1_1 ((v7_1 : Nat) : Int) ((v8_1 : Nat) : Int) e27) ?_
      rintro _
      refine GR.done (Nat.le_of_ble_eq_true (by kernel_rfl)) ?_
      refine GS.seq ?_
      refine GS.conv (env' := [(0, .slice a0_o y26.length a0_c), (1, .int .i64 a1), (2, .func (.func 46) #[] #[]), (6, .int .i64 20), (8, .int .i64 ((v8_1 : Nat) : Int))]) (congrArg (fun vhole : Value => [(0, vhole), (1, .int .i64 a1), (2, .func (.func 46) #[] #[]), (6, .int .i64 20), (8, .int .i64 ((v8_1 : Nat) : Int))]) (show ((.slice a0_o l1_1.length a0_c) : Value) = .slice a0_o y26.length a0_c from (by simp [g28]))) rfl ?_
      refine GS.region (env' := fun _ => [(0, .slice a0_o y26.length a0_c), (1, .int .i64 a1), (2, .func (.func 46) #[] #[]), (6, .int .i64 20), (7, .int .i64 ((v8_1 : Nat) : Int)), (8, .int .i64 ((v8_1 : Nat) : Int))]) (mem' := fun _ => [(1, o48 a0_o a0_c y26)]) (RunsTo.mk [] [0, 1, 2, 6, 7, 8] [1] (fun _ => []) (fun _ => by kernel_rfl) (fun _ => trivial)) ?_
      intro _
      refine grd_elim hm (fun g32 hm => ?_)
      refine GS.region (env' := fun _ => [(0, .slice a0_o y26.length a0_c), (1, .int .i64 a1), (2, .func (.func 46) #[] #[]), (6, .int .i64 20), (7, .int .i64 ((v8_1 : Nat) : Int)), (8, .int .i64 ((v8_1 + 20 : Nat) : Int))]) (mem' := fun _ => [(1, o48 a0_o a0_c y26)]) (RunsTo.mk [(2, { sp := some (.int .i64 ((v8_1 + 20 : Nat) : Int)) })] [0, 1, 2, 6, 7, 8] [1] (fun _ => [((.int .i64 (IntKind.i64.wrap (((v8_1 : Nat) : Int) + 20))) : Value) = .int .i64 ((v8_1 + 20 : Nat) : Int)]) (fun _ => by kernel_rfl) (fun _ => ⟨natw2 g32, trivial⟩)) ?_
      intro _
      refine GS.inBlock ?_
      refine GS.inLoop ?_
      refine GS.rekey (env' := [(0, .slice a0_o y26.length a0_c), (1, .int .i64 a1), (2, .func (.func 46) #[] #[]), (6, .int .i64 20), (7, .int .i64 ((v8_1 : Nat) : Int)), (8, .int .i64 ((v8_1 + 20 : Nat) : Int))]) (mem' := [(1, o48 a0_o a0_c y26)]) [0, 1, 2, 6, 7, 8] [(1, 1)] (by kernel_rfl) (by kernel_rfl) rfl ?_
      exact ih35 ⟨rs34, v8_1, v8_1 + 20, y26⟩ hm (Nat.lt_succ_self _)
    · replace hm := br_f h24 hm
      refine GS.exit rfl ?_
      refine GS.seq ?_
      refine bnd_elim hm (fun y41 e42 hm => ?_)
      refine grd_elim hm (fun g43 hm => ?_)
      refine GS.open_ ?_
      refine GR.run (i := 0) 4 (env' := fun _ => [(0, .slice a0_o l1_1.length a0_c), (1, .int .i64 a1), (2, .func (.func 46) #[] #[]), (6, .int .i64 20), (23, .slice a0_o l1_1.length a0_c), (24, .int .i64 ((v7_1 : Nat) : Int)), (25, .int .i64 a1), (26, .func (.func 46) #[] #[])]) (mem' := fun _ => [(1, o48 a0_o a0_c l1_1)]) (Nat.le_of_ble_eq_true (by kernel_rfl)) (RunsTo.mk [] [0, 1, 2, 6, 23, 24, 25, 26] [1] (fun _ => []) (fun _ => by kernel_rfl) (fun _ => trivial)) ?_
      intro _
      refine GR.callG (X := Unit) (i := 4) (g := 52) (args := #[.slice a0_o l1_1.length a0_c, .int .i64 ((v7_1 : Nat) : Int), .int .i64 a1, .func (.func 46) #[] #[]]) (v := fun (_ : Unit) => .tuple #[]) (own := [o48 a0_o a0_c l1_1]) (ro := []) (es' := fun (_ : Unit) => [o48 a0_o a0_c y41]) (mem' := fun (_ : Unit) => [(1, o48 a0_o a0_c y41)]) (env' := fun (_ : Unit) => [(0, .slice a0_o l1_1.length a0_c), (1, .int .i64 a1), (2, .func (.func 46) #[] #[]), (6, .int .i64 20)]) [1] [1] [0, 1, 2, 6] [1] false (by kernel_rfl) (by kernel_rfl) (by kernel_rfl) (by kernel_rfl) (by kernel_rfl) (fun _ => rfl) (fun _ _ => rfl) trivial (by rintro _; kernel_rfl) (by rintro _; kernel_rfl) (w_slices_insertionSortCmpFunc_api_Item_ F a0_o a0_c l1_1 ((v7_1 : Nat) : Int) a1 e42) ?_
      rintro _
      refine GR.done (Nat.le_of_ble_eq_true (by kernel_rfl)) ?_
      refine GS.block ?_
      refine GS.loop ?_
      refine GS.conv (env' := [(0, .slice a0_o y41.length a0_c), (1, .int .i64 a1), (2, .func (.func 46) #[] #[]), (6, .int .i64 20)]) (congrArg (fun vhole : Value => [(0, vhole), (1, .int .i64 a1), (2, .func (.func 46) #[] #[]), (6, .int .i64 20)]) (show ((.slice a0_o l1_1.length a0_c : Value) = .slice a0_o y41.length a0_c) from (by simp [g43]))) rfl ?_
      refine GS.rekey (env' := [(0, .slice a0_o y41.length a0_c), (1, .int .i64 a1), (2, .func (.func 46) #[] #[]), (6, .int .i64 20)]) (mem' := [(1, o48 a0_o a0_c y41)]) [0, 1, 2, 6] [(1, 1)] (by kernel_rfl) (by kernel_rfl) rfl ?_
      refine loopW_elim hm (fun st286 hst288 hm => ?_)
      refine GS.loopInv (ι := Nat × Int × List S_api_Item) (I := fun ⟨rs284, v6_2, l1_2⟩ => loopW st286 rs284 (v6_2, l1_2) = some y) (μ := fun ⟨rs284, v6_2, l1_2⟩ => rs284) (E := fun ⟨rs284, v6_2, l1_2⟩ => [(0, .slice a0_o l1_2.length a0_c), (1, .int .i64 a1), (2, .func (.func 46) #[] #[]), (6, .int .i64 v6_2)]) (M := fun ⟨rs284, v6_2, l1_2⟩ => [(1, o48 a0_o a0_c l1_2)]) ?_ ⟨F, 20, y41⟩ hm
      rintro ⟨rs284, v6_2, l1_2⟩ hm ih285
      cases rs284 with
      | zero => cases hm
      | succ rs284 =>
        replace hm := (hst288 _ _).symm.trans hm
        try dsimp only at hm
        refine GS.seq ?_
        refine GS.seq ?_
        refine GS.region (env' := fun _ => [(0, .slice a0_o l1_2.length a0_c), (1, .int .i64 a1), (2, .func (.func 46) #[] #[]), (6, .int .i64 v6_2), (30, .bool (decide (v6_2 < a1)))]) (mem' := fun _ => [(1, o48 a0_o a0_c l1_2)]) (RunsTo.mk [] [0, 1, 2, 6, 30] [1] (fun _ => []) (fun _ => by kernel_rfl) (fun _ => trivial)) ?_
        intro _
        refine GS.cond (t := decide (v6_2 < a1)) rfl rfl (fun h225 => ?_) (fun h225 => ?_)
        · replace hm := br_t h225 hm
          refine GS.skip ?_
          refine GS.block ?_
          refine GS.seq ?_
          refine grd_elim hm (fun g227 hm => ?_)
          refine GS.region (env' := fun _ => [(0, .slice a0_o l1_2.length a0_c), (1, .int .i64 a1), (2, .func (.func 46) #[] #[]), (6, .int .i64 v6_2), (7, .int .i64 0), (8, .int .i64 (2 * v6_2))]) (mem' := fun _ => [(1, o48 a0_o a0_c l1_2)]) (RunsTo.mk [(1, { sp := some (.int .i64 (2 * v6_2)) })] [0, 1, 2, 6, 7, 8] [1] (fun _ => [((.int .i64 (IntKind.i64.wrap (2 * v6_2))) : Value) = .int .i64 (2 * v6_2)]) (fun _ => by kernel_rfl) (fun _ => ⟨I64.w g227, trivial⟩)) ?_
          intro _
          refine GS.seq ?_
          refine GS.block ?_
          refine GS.loop ?_
          refine GS.rekey (env' := [(0, .slice a0_o l1_2.length a0_c), (1, .int .i64 a1), (2, .func (.func 46) #[] #[]), (6, .int .i64 v6_2), (7, .int .i64 0), (8, .int .i64 (2 * v6_2))]) (mem' := [(1, o48 a0_o a0_c l1_2)]) [0, 1, 2, 6, 7, 8] [(1, 1)] (by kernel_rfl) (by kernel_rfl) rfl ?_
          refine loopW_elim hm (fun st265 hst267 hm => ?_)
          refine GS.loopInv (ι := Nat × Int × Int × List S_api_Item) (I := fun ⟨rs263, v7_10, v8_10, l1_10⟩ => loopW st265 rs263 (v7_10, v8_10, l1_10) = some y) (μ := fun ⟨rs263, v7_10, v8_10, l1_10⟩ => rs263) (E := fun ⟨rs263, v7_10, v8_10, l1_10⟩ => [(0, .slice a0_o l1_10.length a0_c), (1, .int .i64 a1), (2, .func (.func 46) #[] #[]), (6, .int .i64 v6_2), (7, .int .i64 v7_10), (8, .int .i64 v8_10)]) (M := fun ⟨rs263, v7_10, v8_10, l1_10⟩ => [(1, o48 a0_o a0_c l1_10)]) ?_ ⟨F, 0, (2 * v6_2), l1_2⟩ hm
          rintro ⟨rs263, v7_10, v8_10, l1_10⟩ hm ih264
          cases rs263 with
          | zero => cases hm
          | succ rs263 =>
            replace hm := (hst267 _ _).symm.trans hm
            try dsimp only at hm
            refine GS.seq ?_
            refine GS.seq ?_
            refine GS.region (env' := fun _ => [(0, .slice a0_o l1_10.length a0_c), (1, .int .i64 a1), (2, .func (.func 46) #[] #[]), (6, .int .i64 v6_2), (7, .int .i64 v7_10), (8, .int .i64 v8_10), (35, .bool (decide (v8_10 ≤ a1)))]) (mem' := fun _ => [(1, o48 a0_o a0_c l1_10)]) (RunsTo.mk [] [0, 1, 2, 6, 7, 8, 35] [1] (fun _ => []) (fun _ => by kernel_rfl) (fun _ => trivial)) ?_
            intro _
            refine GS.cond (t := decide (v8_10 ≤ a1)) rfl rfl (fun h252 => ?_) (fun h252 => ?_)
            · replace hm := br_t h252 hm
              refine GS.skip ?_
              refine GS.block ?_
              refine GS.seq ?_
              refine grd_elim hm (fun g254 hm => ?_)
              refine bnd_elim hm (fun y255 e256 hm => ?_)
              refine grd_elim hm (fun g257 hm => ?_)
              refine GS.open_ ?_
              refine GR.run (i := 0) 7 (env' := fun _ => [(0, .slice a0_o l1_10.length a0_c), (1, .int .i64 a1), (2, .func (.func 46) #[] #[]), (6, .int .i64 v6_2), (8, .int .i64 v8_10), (36, .slice a0_o l1_10.length a0_c), (37, .int .i64 v7_10), (40, .int .i64 (v7_10 + v6_2)), (41, .int .i64 v8_10), (42, .func (.func 46) #[] #[])]) (mem' := fun _ => [(1, o48 a0_o a0_c l1_10)]) (Nat.le_of_ble_eq_true (by kernel_rfl)) (RunsTo.mk [(4, { sp := some (.int .i64 (v7_10 + v6_2)) })] [0, 1, 2, 6, 8, 36, 37, 40, 41, 42] [1] (fun _ => [((.int .i64 (IntKind.i64.wrap (v7_10 + v6_2))) : Value) = .int .i64 (v7_10 + v6_2)]) (fun _ => by kernel_rfl) (fun _ => ⟨I64.w g254, trivial⟩)) ?_
              intro _
              refine GR.callG (X := Unit) (i := 7) (g := 53) (args := #[.slice a0_o l1_10.length a0_c, .int .i64 v7_10, .int .i64 (v7_10 + v6_2), .int .i64 v8_10, .func (.func 46) #[] #[]]) (v := fun (_ : Unit) => .tuple #[]) (own := [o48 a0_o a0_c l1_10]) (ro := []) (es' := fun (_ : Unit) => [o48 a0_o a0_c y255]) (mem' := fun (_ : Unit) => [(1, o48 a0_o a0_c y255)]) (env' := fun (_ : Unit) => [(0, .slice a0_o l1_10.length a0_c), (1, .int .i64 a1), (2, .func (.func 46) #[] #[]), (6, .int .i64 v6_2), (8, .int .i64 v8_10)]) [1] [1] [0, 1, 2, 6, 8] [1] false (by kernel_rfl) (by kernel_rfl) (by kernel_rfl) (by kernel_rfl) (by kernel_rfl) (fun _ => rfl) (fun _ _ => rfl) trivial (by rintro _; kernel_rfl) (by rintro _; kernel_rfl) (w_slices_symMergeCmpFunc_api_Item_ F a0_o a0_c l1_10 v7_10 (v7_10 + v6_2) v8_10 e256) ?_
              rintro _
              refine GR.done (Nat.le_of_ble_eq_true (by kernel_rfl)) ?_
              refine GS.seq ?_
              refine GS.conv (env' := [(0, .slice a0_o y255.length a0_c), (1, .int .i64 a1), (2, .func (.func 46) #[] #[]), (6, .int .i64 v6_2), (8, .int .i64 v8_10)]) (congrArg (fun vhole : Value => [(0, vhole), (1, .int .i64 a1), (2, .func (.func 46) #[] #[]), (6, .int .i64 v6_2), (8, .int .i64 v8_10)]) (show ((.slice a0_o l1_10.length a0_c) : Value) = .slice a0_o y255.length a0_c from (by simp [g43, g257]))) rfl ?_
              refine GS.region (env' := fun _ => [(0, .slice a0_o y255.length a0_c), (1, .int .i64 a1), (2, .func (.func 46) #[] #[]), (6, .int .i64 v6_2), (7, .int .i64 v8_10), (8, .int .i64 v8_10)]) (mem' := fun _ => [(1, o48 a0_o a0_c y255)]) (RunsTo.mk [] [0, 1, 2, 6, 7, 8] [1] (fun _ => []) (fun _ => by kernel_rfl) (fun _ => trivial)) ?_
              intro _
              refine grd_elim hm (fun g261 hm => ?_)
              refine GS.region (env' := fun _ => [(0, .slice a0_o y255.length a0_c), (1, .int .i64 a1), (2, .func (.func 46) #[] #[]), (6, .int .i64 v6_2), (7, .int .i64 v8_10), (8, .int .i64 (v8_10 + (2 * v6_2)))]) (mem' := fun _ => [(1, o48 a0_o a0_c y255)]) (RunsTo.mk [(2, { sp := some (.int .i64 (2 * v6_2)) }), (3, { sp := some (.int .i64 (v8_10 + (2 * v6_2))) })] [0, 1, 2, 6, 7, 8] [1] (fun _ => [((.int .i64 (IntKind.i64.wrap (2 * v6_2))) : Value) = .int .i64 (2 * v6_2), ((.int .i64 (IntKind.i64.wrap (v8_10 + (2 * v6_2)))) : Value) = .int .i64 (v8_10 + (2 * v6_2))]) (fun _ => by kernel_rfl) (fun _ => ⟨I64.w g227, I64.w g261, trivial⟩)) ?_
              intro _
              refine GS.inBlock ?_
              refine GS.inLoop ?_
              refine GS.rekey (env' := [(0, .slice a0_o y255.length a0_c), (1, .int .i64 a1), (2, .func (.func 46) #[] #[]), (6, .int .i64 v6_2), (7, .int .i64 v8_10), (8, .int .i64 (v8_10 + (2 * v6_2)))]) (mem' := [(1, o48 a0_o a0_c y255)]) [0, 1, 2, 6, 7, 8] [(1, 1)] (by kernel_rfl) (by kernel_rfl) rfl ?_
              exact ih264 ⟨rs263, v8_10, (v8_10 + (2 * v6_2)), y255⟩ hm (Nat.lt_succ_self _)
            · replace hm := br_f h252 hm
              refine GS.exit rfl ?_
              refine GS.seq ?_
              refine GS.seq ?_
              refine grd_elim hm (fun g270 hm => ?_)
              refine GS.region (env' := fun _ => [(0, .slice a0_o l1_10.length a0_c), (1, .int .i64 a1), (2, .func (.func 46) #[] #[]), (6, .int .i64 v6_2), (7, .int .i64 v7_10), (9, .int .i64 (v7_10 + v6_2))]) (mem' := fun _ => [(1, o48 a0_o a0_c l1_10)]) (RunsTo.mk [(2, { sp := some (.int .i64 (v7_10 + v6_2)) })] [0, 1, 2, 6, 7, 9] [1] (fun _ => [((.int .i64 (IntKind.i64.wrap (v7_10 + v6_2))) : Value) = .int .i64 (v7_10 + v6_2)]) (fun _ => by kernel_rfl) (fun _ => ⟨I64.w g270, trivial⟩)) ?_
              intro _
              refine GS.seq ?_
              refine GS.region (env' := fun _ => [(0, .slice a0_o l1_10.length a0_c), (1, .int .i64 a1), (2, .func (.func 46) #[] #[]), (6, .int .i64 v6_2), (7, .int .i64 v7_10), (9, .int .i64 (v7_10 + v6_2)), (54, .bool (decide ((v7_10 + v6_2) < a1)))]) (mem' := fun _ => [(1, o48 a0_o a0_c l1_10)]) (RunsTo.mk [] [0, 1, 2, 6, 7, 9, 54] [1] (fun _ => []) (fun _ => by kernel_rfl) (fun _ => trivial)) ?_
              intro _
              refine jn_elim hm (fun J278 hJ280 hm => ?_)
              refine GS.cut (ι := List S_api_Item) (I := fun (l1_11 : List S_api_Item) => J278 l1_11 = some y) (E := fun (l1_11 : List S_api_Item) => [(0, .slice a0_o l1_11.length a0_c), (1, .int .i64 a1), (2, .func (.func 46) #[] #[]), (6, .int .i64 v6_2)]) (M := fun (l1_11 : List S_api_Item) => [(1, o48 a0_o a0_c l1_11)]) ?_ ?_
              rotate_left
              · intro H279
                refine GS.cond (t := decide ((v7_10 + v6_2) < a1)) rfl rfl (fun h272 => ?_) (fun h272 => ?_)
                · replace hm := br_t h272 hm
                  refine bnd_elim hm (fun y274 e275 hm => ?_)
                  refine grd_elim hm (fun g276 hm => ?_)
                  refine GS.open_ ?_
                  refine GR.run (i := 0) 5 (env' := fun _ => [(0, .slice a0_o l1_10.length a0_c), (1, .int .i64 a1), (2, .func (.func 46) #[] #[]), (6, .int .i64 v6_2), (55, .slice a0_o l1_10.length a0_c), (56, .int .i64 v7_10), (57, .int .i64 (v7_10 + v6_2)), (58, .int .i64 a1), (59, .func (.func 46) #[] #[])]) (mem' := fun _ => [(1, o48 a0_o a0_c l1_10)]) (Nat.le_of_ble_eq_true (by kernel_rfl)) (RunsTo.mk [] [0, 1, 2, 6, 55, 56, 57, 58, 59] [1] (fun _ => []) (fun _ => by kernel_rfl) (fun _ => trivial)) ?_
                  intro _
                  refine GR.callG (X := Unit) (i := 5) (g := 53) (args := #[.slice a0_o l1_10.length a0_c, .int .i64 v7_10, .int .i64 (v7_10 + v6_2), .int .i64 a1, .func (.func 46) #[] #[]]) (v := fun (_ : Unit) => .tuple #[]) (own := [o48 a0_o a0_c l1_10]) (ro := []) (es' := fun (_ : Unit) => [o48 a0_o a0_c y274]) (mem' := fun (_ : Unit) => [(1, o48 a0_o a0_c y274)]) (env' := fun (_ : Unit) => [(0, .slice a0_o l1_10.length a0_c), (1, .int .i64 a1), (2, .func (.func 46) #[] #[]), (6, .int .i64 v6_2)]) [1] [1] [0, 1, 2, 6] [1] false (by kernel_rfl) (by kernel_rfl) (by kernel_rfl) (by kernel_rfl) (by kernel_rfl) (fun _ => rfl) (fun _ _ => rfl) trivial (by rintro _; kernel_rfl) (by rintro _; kernel_rfl) (w_slices_symMergeCmpFunc_api_Item_ F a0_o a0_c l1_10 v7_10 (v7_10 + v6_2) a1 e275) ?_
                  rintro _
                  refine GR.done (Nat.le_of_ble_eq_true (by kernel_rfl)) ?_
                  refine GS.conv (env' := [(0, .slice a0_o y274.length a0_c), (1, .int .i64 a1), (2, .func (.func 46) #[] #[]), (6, .int .i64 v6_2)]) (congrArg (fun vhole : Value => [(0, vhole), (1, .int .i64 a1), (2, .func (.func 46) #[] #[]), (6, .int .i64 v6_2)]) (show ((.slice a0_o l1_10.length a0_c : Value) = .slice a0_o y274.length a0_c) from (by simp [g43, g276]))) rfl ?_
                  refine GS.rekey (env' := [(0, .slice a0_o y274.length a0_c), (1, .int .i64 a1), (2, .func (.func 46) #[] #[]), (6, .int .i64 v6_2)]) (mem' := [(1, o48 a0_o a0_c y274)]) [0, 1, 2, 6] [(1, 1)] (by kernel_rfl) (by kernel_rfl) rfl ?_
                  exact H279 y274 hm
                · replace hm := br_f h272 hm
                  refine GS.skip ?_
                  refine GS.rekey (env' := [(0, .slice a0_o l1_10.length a0_c), (1, .int .i64 a1), (2, .func (.func 46) #[] #[]), (6, .int .i64 v6_2)]) (mem' := [(1, o48 a0_o a0_c l1_10)]) [0, 1, 2, 6] [(1, 1)] (by kernel_rfl) (by kernel_rfl) rfl ?_
                  exact H279 l1_10 hm
              · rintro l1_11 hm
                replace hm := (hJ280 _).symm.trans hm
                try dsimp only at hm
                refine grd_elim hm (fun g282 hm => ?_)
                refine GS.region (env' := fun _ => [(0, .slice a0_o l1_11.length a0_c), (1, .int .i64 a1), (2, .func (.func 46) #[] #[]), (6, .int .i64 (v6_2 * 2))]) (mem' := fun _ => [(1, o48 a0_o a0_c l1_11)]) (RunsTo.mk [(1, { sp := some (.int .i64 (v6_2 * 2)) })] [0, 1, 2, 6] [1] (fun _ => [((.int .i64 (IntKind.i64.wrap (v6_2 * 2))) : Value) = .int .i64 (v6_2 * 2)]) (fun _ => by kernel_rfl) (fun _ => ⟨I64.w g282, trivial⟩)) ?_
                intro _
                refine GS.inBlock ?_
                refine GS.inLoop ?_
                refine GS.rekey (env' := [(0, .slice a0_o l1_11.length a0_c), (1, .int .i64 a1), (2, .func (.func 46) #[] #[]), (6, .int .i64 (v6_2 * 2))]) (mem' := [(1, o48 a0_o a0_c l1_11)]) [0, 1, 2, 6] [(1, 1)] (by kernel_rfl) (by kernel_rfl) rfl ?_
                exact ih285 ⟨rs284, (v6_2 * 2), l1_11⟩ hm (Nat.lt_succ_self _)
        · replace hm := br_f h225 hm
          refine GS.exit rfl ?_
          have hy := Option.some.inj hm
          subst hy
          refine GS.end_ (fn := Try.f50) [] [] [] rfl Try.func50 (by kernel_rfl) trivial (fun w' hs => ?_)
          exact ⟨(), rfl, hs.turnedG (ks := [1]) rfl rfl⟩

theorem w_slices_SortStableFunc___api_Item_api_Item_ (F : Nat) (a0_o : Option Addr) (a0_c : Nat) (a0 : List S_api_Item) {y : List S_api_Item} (hm : m_slices_SortStableFunc___api_Item_api_Item_ F a0 = some y) : CallG Try.prog 45 #[.slice a0_o a0.length a0_c, .func (.func 46) #[] #[]] (X := Unit) (fun (_ : Unit) => .tuple #[]) [o48 a0_o a0_c a0] [] (fun (_ : Unit) => [o48 a0_o a0_c y]) := by
  intro w hg
  rw [m_slices_SortStableFunc___api_Item_api_Item_] at hm
  refine GS.start (S := mayT [o48 a0_o a0_c a0] []) (mem := [(1, o48 a0_o a0_c a0)]) Try.func45 rfl Try.ntmps45 (Nat.le_of_ble_eq_true rfl) (hg.start rfl) ?_
  refine GS.conv (env' := [(0, .slice a0_o a0.length a0_c), (1, .func (.func 46) #[] #[])]) rfl rfl ?_
  refine bnd_elim hm (fun y2 e3 hm => ?_)
  refine grd_elim hm (fun g4 hm => ?_)
  refine GS.open_ ?_
  refine GR.run (i := 0) 4 (env' := fun _ => [(4, .slice a0_o a0.length a0_c), (6, .int .i64 ((a0.length : Nat) : Int)), (7, .func (.func 46) #[] #[])]) (mem' := fun _ => [(1, o48 a0_o a0_c a0)]) (Nat.le_of_ble_eq_true (by kernel_rfl)) (RunsTo.mk [] [4, 6, 7] [1] (fun _ => []) (fun _ => by kernel_rfl) (fun _ => trivial)) ?_
  intro _
  refine GR.callG (X := Unit) (i := 4) (g := 50) (args := #[.slice a0_o a0.length a0_c, .int .i64 ((a0.length : Nat) : Int), .func (.func 46) #[] #[]]) (v := fun (_ : Unit) => .tuple #[]) (own := [o48 a0_o a0_c a0]) (ro := []) (es' := fun (_ : Unit) => [o48 a0_o a0_c y2]) (mem' := fun (_ : Unit) => [(1, o48 a0_o a0_c y2)]) (env' := fun (_ : Unit) => []) [1] [1] [] [1] false (by kernel_rfl) (by kernel_rfl) (by kernel_rfl) (by kernel_rfl) (by kernel_rfl) (fun _ => rfl) (fun _ _ => rfl) trivial (by rintro _; kernel_rfl) (by rintro _; kernel_rfl) (w_slices_stableCmpFunc_api_Item_ F a0_o a0_c a0 ((a0.length : Nat) : Int) e3) ?_
  rintro _
  refine GR.done (Nat.le_of_ble_eq_true (by kernel_rfl)) ?_
  have hy := Option.some.inj hm
  subst hy
  refine GS.end_ (fn := Try.f45) [] [] [] rfl Try.func45 (by kernel_rfl) trivial (fun w' hs => ?_)
  exact ⟨(), rfl, hs.turnedG (ks := [1]) rfl rfl⟩

theorem w_backfill_byName (F : Nat) (a0_o : Option Addr) (a0_c : Nat) (a0 : List S_api_Item) {y : List S_api_Item} (hm : m_backfill_byName F a0 = some y) : CallG Try.prog 28 #[.slice a0_o a0.length a0_c] (X := Option Addr × Nat) (fun ⟨x0, x1⟩ => .slice x0 y.length x1) [] [r48 a0_o a0] (fun ⟨x0, x1⟩ => [o48 x0 x1 y]) := by
  intro w hg
  rw [m_backfill_byName] at hm
  refine GS.start (S := mayT [] [r48 a0_o a0]) (mem := [(1, r48 a0_o a0)]) Try.func28 rfl Try.ntmps28 (Nat.le_of_ble_eq_true rfl) (hg.start rfl) ?_
  refine GS.conv (env' := [(0, .slice a0_o a0.length a0_c)]) rfl rfl ?_
  refine GS.seq ?_
  refine GS.region (env' := fun _ => [(0, .slice a0_o a0.length a0_c)]) (mem' := fun _ => [(1, r48 a0_o a0)]) (RunsTo.mk [] [0] [1] (fun _ => []) (fun _ => by kernel_rfl) (fun _ => trivial)) ?_
  intro _
  refine GS.seq ?_
  refine bnd_elim hm (fun y3 e4 hm => ?_)
  refine GS.open_ ?_
  refine GR.run (i := 0) 1 (env' := fun _ => [(4, .slice a0_o a0.length a0_c)]) (mem' := fun _ => [(1, r48 a0_o a0)]) (Nat.le_of_ble_eq_true (by kernel_rfl)) (RunsTo.mk [] [4] [1] (fun _ => []) (fun _ => by kernel_rfl) (fun _ => trivial)) ?_
  intro _
  refine GR.callG (X := Option Addr × Nat) (i := 1) (g := 32) (args := #[.slice a0_o a0.length a0_c]) (v := fun ⟨x5, x6⟩ => .slice x5 y3.length x6) (own := []) (ro := [r48 a0_o a0]) (es' := fun ⟨x5, x6⟩ => [o48 x5 x6 y3]) (mem' := fun ⟨x5, x6⟩ => [(1, r48 a0_o a0), (2, o48 x5 x6 y3)]) (env' := fun ⟨x5, x6⟩ => [(5, .slice x5 y3.length x6)]) [] [2] [5] [1, 2] false (by kernel_rfl) (by kernel_rfl) (by kernel_rfl) (by kernel_rfl) (by kernel_rfl) (fun _ => rfl) (fun _ _ => rfl) ⟨(.inl ⟨1, _, rfl, rfl, Cov.refl _, fun h => by cases h⟩), trivial⟩ (by rintro ⟨x5, x6⟩; kernel_rfl) (by rintro ⟨x5, x6⟩; kernel_rfl) (w_slices_Clone___api_Item_api_Item_ F a0_o a0_c a0 e4) ?_
  rintro ⟨x5, x6⟩
  refine GR.run (i := 2) 1 (env' := fun _ => [(3, .slice x5 y3.length x6)]) (mem' := fun _ => [(2, o48 x5 x6 y3)]) (Nat.le_of_ble_eq_true (by kernel_rfl)) (RunsTo.mk [] [3] [2] (fun _ => []) (fun _ => by kernel_rfl) (fun _ => trivial)) ?_
  intro _
  refine GR.done (Nat.le_of_ble_eq_true (by kernel_rfl)) ?_
  refine GS.seq ?_
  refine bnd_elim hm (fun y9 e10 hm => ?_)
  refine grd_elim hm (fun g11 hm => ?_)
  refine GS.open_ ?_
  refine GR.run (i := 0) 1 (env' := fun _ => [(3, .slice x5 y3.length x6), (6, .slice x5 y3.length x6)]) (mem' := fun _ => [(2, o48 x5 x6 y3)]) (Nat.le_of_ble_eq_true (by kernel_rfl)) (RunsTo.mk [] [3, 6] [2] (fun _ => []) (fun _ => by kernel_rfl) (fun _ => trivial)) ?_
  intro _
  refine GR.callG (X := Unit) (i := 1) (g := 45) (args := #[.slice x5 y3.length x6, .func (.func 46) #[] #[]]) (v := fun (_ : Unit) => .tuple #[]) (own := [o48 x5 x6 y3]) (ro := []) (es' := fun (_ : Unit) => [o48 x5 x6 y9]) (mem' := fun (_ : Unit) => [(2, o48 x5 x6 y9)]) (env' := fun (_ : Unit) => [(3, .slice x5 y3.length x6)]) [2] [2] [3] [2] false (by kernel_rfl) (by kernel_rfl) (by kernel_rfl) (by kernel_rfl) (by kernel_rfl) (fun _ => rfl) (fun _ _ => rfl) trivial (by rintro _; kernel_rfl) (by rintro _; kernel_rfl) (w_slices_SortStableFunc___api_Item_api_Item_ F x5 x6 y3 e10) ?_
  rintro _
  refine GR.done (Nat.le_of_ble_eq_true (by kernel_rfl)) ?_
  refine GS.seq ?_
  refine GS.conv (env' := [(3, .slice x5 y9.length x6)]) (congrArg (fun vhole : Value => [(3, vhole)]) (show ((.slice x5 y3.length x6) : Value) = .slice x5 y9.length x6 from (by simp [g11]))) rfl ?_
  refine GS.region (env' := fun _ => [(2, .slice x5 y9.length x6)]) (mem' := fun _ => [(2, o48 x5 x6 y9)]) (RunsTo.mk [] [2] [2] (fun _ => []) (fun _ => by kernel_rfl) (fun _ => trivial)) ?_
  intro _
  have hy := Option.some.inj hm
  subst hy
  refine GS.ret (fn := Try.f28) [0] [.slice x5 y9.length x6] [] rfl Try.func28 (by kernel_rfl) trivial (fun w' hs => ?_)
  exact ⟨⟨x5, x6⟩, rfl, hs.turnedG (ks := [2]) rfl rfl⟩

theorem w_pglog_Find (F : Nat) (a0_Les : Int) (a0_Tail : S_api_Version) (a0_Log_o : Option Addr) (a0_Log_c : Nat) (a0_Log : List S_api_Entry) (a0_Lasts_o : Option Addr) (a0_Lasts_c : Nat) (a0_Lasts : List S_api_Last) (a0_Items_o : Option Addr) (a0_Items_c : Nat) (a0_Items : List S_api_Item) (a1 : ByteArray) {y : S_api_Item × Bool} (hm : m_pglog_Find F a0_Les a0_Tail a0_Log a0_Lasts a0_Items a1 = some y) : CallG Try.prog 29 #[.agg #[.int .i64 a0_Les, .int .i64 a0_Tail.Epoch, .int .i64 a0_Tail.N, .slice a0_Log_o a0_Log.length a0_Log_c, .slice a0_Lasts_o a0_Lasts.length a0_Lasts_c, .slice a0_Items_o a0_Items.length a0_Items_c], .string a1] (X := Unit) (fun (_ : Unit) => .tuple #[.agg #[.string y.1.Name, .int .i64 y.1.Version.Epoch, .int .i64 y.1.Version.N, .int .u32 y.1.Crc], .bool y.2]) [] [r58 a0_Log_o a0_Log, r78 a0_Lasts_o a0_Lasts, r48 a0_Items_o a0_Items] (fun (_ : Unit) => []) := by
  intro w hg
  rw [m_pglog_Find] at hm
  refine GS.start (S := mayT [] [r58 a0_Log_o a0_Log, r78 a0_Lasts_o a0_Lasts, r48 a0_Items_o a0_Items]) (mem := [(1, r58 a0_Log_o a0_Log), (2, r78 a0_Lasts_o a0_Lasts), (3, r48 a0_Items_o a0_Items)]) Try.func29 rfl Try.ntmps29 (Nat.le_of_ble_eq_true rfl) (hg.start rfl) ?_
  refine GS.conv (env' := [(0, .agg #[.int .i64 a0_Les, .int .i64 a0_Tail.Epoch, .int .i64 a0_Tail.N, .slice a0_Log_o a0_Log.length a0_Log_c, .slice a0_Lasts_o a0_Lasts.length a0_Lasts_c, .slice a0_Items_o a0_Items.length a0_Items_c]), (1, .string a1)]) rfl rfl ?_
  refine GS.seq ?_
  refine GS.region (env' := fun fr1 => [(1, .string a1), (2, .pointer (some ⟨(fr1 0).x, 0, none⟩)), (4, .pointer (some ⟨(fr1 1).x, 0, none⟩))]) (mem' := fun fr1 => [(1, r58 a0_Log_o a0_Log), (2, r78 a0_Lasts_o a0_Lasts), (3, r48 a0_Items_o a0_Items), (4, .cells ((fr1 0).x) 31 [.int .i64 a0_Les, .int .i64 a0_Tail.Epoch, .int .i64 a0_Tail.N, .slice a0_Log_o a0_Log.length a0_Log_c, .slice a0_Lasts_o a0_Lasts.length a0_Lasts_c, .slice a0_Items_o a0_Items.length a0_Items_c]), (5, .cells ((fr1 1).x) 48 [.string (ByteArray.mk #[]), .int .i64 0, .int .i64 0, .int .u32 0])]) (RunsTo.mk [(0, { act := .new .var, key := some 4 }), (1, { act := .new .var, key := some 5 })] [1, 2, 4] [1, 2, 3, 4, 5] (fun fr1 => []) (fun fr1 => by kernel_rfl) (fun fr1 => trivial)) ?_
  intro fr1
  refine GS.seq ?_
  refine GS.seq ?_
  refine GS.region (env' := fun _ => [(1, .string a1), (4, .pointer (some ⟨(fr1 1).x, 0, none⟩)), (9, .slice a0_Items_o a0_Items.length a0_Items_c), (10, .int .i64 ((a0_Items.length : Nat) : Int)), (11, .int .i64 0)]) (mem' := fun _ => [(3, r48 a0_Items_o a0_Items), (5, .cells ((fr1 1).x) 48 [.string (ByteArray.mk #[]), .int .i64 0, .int .i64 0, .int .u32 0])]) (RunsTo.mk [(1, { act := .load 4 0 0 [] })] [1, 4, 9, 10, 11] [3, 5] (fun _ => [(fr1 0).x = (fr1 0).x]) (fun _ => by kernel_rfl) (fun _ => ⟨rfl, trivial⟩)) ?_
  intro _
  refine GS.block ?_
  refine GS.loop ?_
  refine grd_elim hm (fun g21 hm => ?_)
  refine GS.rekey (env' := [(1, .string a1), (4, .pointer (some ⟨(fr1 1).x, 0, none⟩)), (9, .slice a0_Items_o a0_Items.length a0_Items_c), (10, .int .i64 ((a0_Items.length : Nat) : Int)), (11, .int .i64 0)]) (mem' := [(3, r48 a0_Items_o a0_Items), (5, .cells ((fr1 1).x) 48 [.string (ByteArray.mk #[]), .int .i64 0, .int .i64 0, .int .u32 0])]) [1, 4, 9, 10, 11] [(3, 3), (5, 5)] (by kernel_rfl) (by kernel_rfl) rfl ?_
  refine loopL_elim hm (fun st35 fn36 hst37 hfn38 hm => ?_)
  refine GS.loopInv (ι := List S_api_Item × Nat) (I := fun ⟨rs33, v11_1⟩ => a0_Items.drop v11_1 = rs33 ∧ loopL st35 fn36 rs33 v11_1 () = some y) (μ := fun ⟨rs33, v11_1⟩ => rs33.length) (E := fun ⟨rs33, v11_1⟩ => [(1, .string a1), (4, .pointer (some ⟨(fr1 1).x, 0, none⟩)), (9, .slice a0_Items_o a0_Items.length a0_Items_c), (10, .int .i64 ((a0_Items.length : Nat) : Int)), (11, .int .i64 ((v11_1 : Nat) : Int))]) (M := fun ⟨rs33, v11_1⟩ => [(3, r48 a0_Items_o a0_Items), (5, .cells ((fr1 1).x) 48 [.string (ByteArray.mk #[]), .int .i64 0, .int .i64 0, .int .u32 0])]) ?_ ⟨a0_Items, 0⟩ ⟨List.drop_zero .., hm⟩
  rintro ⟨rs33, v11_1⟩ ⟨hd20, hm⟩ ih34
  cases rs33 with
  | nil =>
    replace hm := (hfn38 _ _).symm.trans hm
    try dsimp only at hm
    refine GS.seq ?_
    refine GS.region (env' := fun _ => [(1, .string a1), (4, .pointer (some ⟨(fr1 1).x, 0, none⟩)), (9, .slice a0_Items_o a0_Items.length a0_Items_c), (10, .int .i64 ((a0_Items.length : Nat) : Int)), (11, .int .i64 ((v11_1 : Nat) : Int)), (12, .bool (decide (((v11_1 : Nat) : Int) < ((a0_Items.length : Nat) : Int))))]) (mem' := fun _ => [(3, r48 a0_Items_o a0_Items), (5, .cells ((fr1 1).x) 48 [.string (ByteArray.mk #[]), .int .i64 0, .int .i64 0, .int .u32 0])]) (RunsTo.mk [] [1, 4, 9, 10, 11, 12] [3, 5] (fun _ => []) (fun _ => by kernel_rfl) (fun _ => trivial)) ?_
    intro _
    refine GS.seq ?_
    refine GS.cond (t := decide (((v11_1 : Nat) : Int) < ((a0_Items.length : Nat) : Int))) rfl rfl (fun h31 => absb h31 (drop_dec0 hd20)) (fun _ => ?_)
    refine GS.exit rfl ?_
    refine GS.seq ?_
    refine GS.region (env' := fun _ => [(4, .pointer (some ⟨(fr1 1).x, 0, none⟩)), (5, .bool false)]) (mem' := fun _ => [(5, .cells ((fr1 1).x) 48 [.string (ByteArray.mk #[]), .int .i64 0, .int .i64 0, .int .u32 0])]) (RunsTo.mk [(1, { act := .store 0 0 [], key := some 5 })] [4, 5] [5] (fun _ => [(fr1 1).x = (fr1 1).x, ((.agg #[.string (ByteArray.mk #[]), .int .i64 0, .int .i64 0, .int .u32 0]) : Value).cells.toList.all Value.oneCell' = true]) (fun _ => by kernel_rfl) (fun _ => ⟨rfl, rfl, trivial⟩)) ?_
    intro _
    have hy := Option.some.inj hm
    subst hy
    refine GS.ret (fn := Try.f29) [5, 0] [.agg #[.string (ByteArray.mk #[]), .int .i64 0, .int .i64 0, .int .u32 0], .bool false] [(fr1 1).x = (fr1 1).x] rfl Try.func29 (by kernel_rfl) ⟨rfl, trivial⟩ (fun w' hs => ?_)
    exact ⟨(), rfl, hs.turnedG (ks := []) rfl rfl⟩
  | cons x22 rs33 =>
    replace hm := (hst37 _ _ _ _).symm.trans hm
    try dsimp only at hm
    refine GS.seq ?_
    refine GS.region (env' := fun _ => [(1, .string a1), (4, .pointer (some ⟨(fr1 1).x, 0, none⟩)), (9, .slice a0_Items_o a0_Items.length a0_Items_c), (10, .int .i64 ((a0_Items.length : Nat) : Int)), (11, .int .i64 ((v11_1 : Nat) : Int)), (12, .bool (decide (((v11_1 : Nat) : Int) < ((a0_Items.length : Nat) : Int))))]) (mem' := fun _ => [(3, r48 a0_Items_o a0_Items), (5, .cells ((fr1 1).x) 48 [.string (ByteArray.mk #[]), .int .i64 0, .int .i64 0, .int .u32 0])]) (RunsTo.mk [] [1, 4, 9, 10, 11, 12] [3, 5] (fun _ => []) (fun _ => by kernel_rfl) (fun _ => trivial)) ?_
    intro _
    refine GS.seq ?_
    refine GS.cond (t := decide (((v11_1 : Nat) : Int) < ((a0_Items.length : Nat) : Int))) rfl rfl (fun _ => ?_) (fun h24 => absb (drop_dec hd20) h24)
    refine GS.skip ?_
    refine GS.seq ?_
    refine GS.block ?_
    refine GS.seq ?_
    refine GS.region (env' := fun fr25 => [(1, .string a1), (4, .pointer (some ⟨(fr1 1).x, 0, none⟩)), (7, .pointer (some ⟨(fr25 2).x, 0, none⟩)), (9, .slice a0_Items_o a0_Items.length a0_Items_c), (10, .int .i64 ((a0_Items.length : Nat) : Int)), (11, .int .i64 ((v11_1 : Nat) : Int))]) (mem' := fun fr25 => [(3, r48 a0_Items_o a0_Items), (5, .cells ((fr1 1).x) 48 [.string (ByteArray.mk #[]), .int .i64 0, .int .i64 0, .int .u32 0]), (6, .cells ((fr25 2).x) 48 [.string x22.Name, .int .i64 x22.Version.Epoch, .int .i64 x22.Version.N, .int .u32 x22.Crc])]) (RunsTo.mk [(0, { act := .idx 3 v11_1 }), (1, { act := .load 3 v11_1 0 [.string x22.Name, .int .i64 x22.Version.Epoch, .int .i64 x22.Version.N, .int .u32 x22.Crc] }), (2, { act := .new .var, key := some 6 }), (3, { act := .store 0 0 [], key := some 6 })] [1, 4, 7, 9, 10, 11] [3, 5, 6] (fun fr25 => [a0_Items_o = a0_Items_o, a0_Items.length = (List.map S_api_Item.row a0_Items).length, (((v11_1 : Nat) : Int) : Int) = ((v11_1 : Nat) : Int), v11_1 < a0_Items.length, blk a0_Items_o = blk a0_Items_o, offs a0_Items_o + v11_1 * 4 = offs a0_Items_o + (v11_1 * 4 + 0), (List.map S_api_Item.row a0_Items)[v11_1]? = some [.string x22.Name, .int .i64 x22.Version.Epoch, .int .i64 x22.Version.N, .int .u32 x22.Crc], (fr25 2).x = (fr25 2).x, ((.agg #[.string x22.Name, .int .i64 x22.Version.Epoch, .int .i64 x22.Version.N, .int .u32 x22.Crc]) : Value).cells.toList.all Value.oneCell' = true]) (fun fr25 => by kernel_rfl) (fun fr25 => ⟨rfl, mlen S_api_Item.row a0_Items, rfl, (drop_lt hd20), rfl, rfl, map_drop S_api_Item.row hd20, rfl, rfl, trivial⟩)) ?_
    intro fr25
    refine GS.seq ?_
    refine GS.region (env' := fun _ => [(1, .string a1), (4, .pointer (some ⟨(fr1 1).x, 0, none⟩)), (7, .pointer (some ⟨(fr25 2).x, 0, none⟩)), (9, .slice a0_Items_o a0_Items.length a0_Items_c), (10, .int .i64 ((a0_Items.length : Nat) : Int)), (11, .int .i64 ((v11_1 : Nat) : Int)), (18, .bool (x22.Name.toList == a1.toList))]) (mem' := fun _ => [(3, r48 a0_Items_o a0_Items), (5, .cells ((fr1 1).x) 48 [.string (ByteArray.mk #[]), .int .i64 0, .int .i64 0, .int .u32 0]), (6, .cells ((fr25 2).x) 48 [.string x22.Name, .int .i64 x22.Version.Epoch, .int .i64 x22.Version.N, .int .u32 x22.Crc])]) (RunsTo.mk [(1, { act := .load 6 0 0 [] })] [1, 4, 7, 9, 10, 11, 18] [3, 5, 6] (fun _ => [(fr25 2).x = (fr25 2).x]) (fun _ => by kernel_rfl) (fun _ => ⟨rfl, trivial⟩)) ?_
    intro _
    refine GS.cond (t := x22.Name.toList == a1.toList) rfl rfl (fun h27 => ?_) (fun h27 => ?_)
    · replace hm := br_t h27 hm
      refine GS.seq ?_
      refine GS.region (env' := fun _ => [(4, .pointer (some ⟨(fr1 1).x, 0, none⟩)), (5, .bool true)]) (mem' := fun _ => [(5, .cells ((fr1 1).x) 48 [.string x22.Name, .int .i64 x22.Version.Epoch, .int .i64 x22.Version.N, .int .u32 x22.Crc])]) (RunsTo.mk [(0, { act := .load 6 0 0 [] }), (1, { act := .store 0 0 [], key := some 5 })] [4, 5] [5] (fun _ => [(fr25 2).x = (fr25 2).x, (fr1 1).x = (fr1 1).x, ((.agg #[.string x22.Name, .int .i64 x22.Version.Epoch, .int .i64 x22.Version.N, .int .u32 x22.Crc]) : Value).cells.toList.all Value.oneCell' = true]) (fun _ => by kernel_rfl) (fun _ => ⟨rfl, rfl, rfl, trivial⟩)) ?_
      intro _
      have hy := Option.some.inj hm
      subst hy
      refine GS.ret (fn := Try.f29) [5, 0] [.agg #[.string x22.Name, .int .i64 x22.Version.Epoch, .int .i64 x22.Version.N, .int .u32 x22.Crc], .bool true] [(fr1 1).x = (fr1 1).x] rfl Try.func29 (by kernel_rfl) ⟨rfl, trivial⟩ (fun w' hs => ?_)
      exact ⟨(), rfl, hs.turnedG (ks := []) rfl rfl⟩
    · replace hm := br_f h27 hm
      refine GS.skip ?_
      refine GS.inBlock ?_
      refine GS.region (env' := fun _ => [(1, .string a1), (4, .pointer (some ⟨(fr1 1).x, 0, none⟩)), (9, .slice a0_Items_o a0_Items.length a0_Items_c), (10, .int .i64 ((a0_Items.length : Nat) : Int)), (11, .int .i64 ((v11_1 + 1 : Nat) : Int))]) (mem' := fun _ => [(3, r48 a0_Items_o a0_Items), (5, .cells ((fr1 1).x) 48 [.string (ByteArray.mk #[]), .int .i64 0, .int .i64 0, .int .u32 0])]) (RunsTo.mk [(0, { sp := some (.int .i64 ((v11_1 + 1 : Nat) : Int)) })] [1, 4, 9, 10, 11] [3, 5] (fun _ => [((.int .i64 (IntKind.i64.wrap (((v11_1 : Nat) : Int) + 1))) : Value) = .int .i64 ((v11_1 + 1 : Nat) : Int)]) (fun _ => by kernel_rfl) (fun _ => ⟨natw (drop_lt hd20) g21, trivial⟩)) ?_
      intro _
      refine GS.inLoop ?_
      refine GS.rekey (env' := [(1, .string a1), (4, .pointer (some ⟨(fr1 1).x, 0, none⟩)), (9, .slice a0_Items_o a0_Items.length a0_Items_c), (10, .int .i64 ((a0_Items.length : Nat) : Int)), (11, .int .i64 ((v11_1 + 1 : Nat) : Int))]) (mem' := [(3, r48 a0_Items_o a0_Items), (5, .cells ((fr1 1).x) 48 [.string (ByteArray.mk #[]), .int .i64 0, .int .i64 0, .int .u32 0])]) [1, 4, 9, 10, 11] [(3, 3), (5, 5)] (by kernel_rfl) (by kernel_rfl) rfl ?_
      exact ih34 ⟨rs33, v11_1 + 1⟩ ⟨drop_next hd20, hm⟩ (Nat.lt_succ_self _)

end Go.Proofs.Yticlccnajfjdeaa
