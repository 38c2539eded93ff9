/-
  CHAPTER 21s: the functions do what their models say (3).
-/
import Derived.Test.YtcegkgbceogflaaW21sb
set_option linter.unusedVariables false
set_option linter.unusedSimpArgs false
set_option maxRecDepth 100000
namespace Go.Proofs.Ytcegkgbceogflaa
open Go Go.RowKit Sx

theorem wq_slices_stableCmpFunc_scrub_Fix_ (F : Nat) (a0_o : Option Addr) (a0_c : Nat) (a0 : List S_scrub_Fix_v) (a1 : Int) {y : List S_scrub_Fix_v} (hm : mq_slices_stableCmpFunc_scrub_Fix_ F a0 a1 = some y) : CallG Try.prog 36 #[.slice a0_o a0.length a0_c, .int .i64 a1, .func (.func 29) #[] #[]] (X := Unit) (fun (_ : Unit) => .tuple #[]) [o78q a0_o a0_c a0] [] (fun (_ : Unit) => [o78q a0_o a0_c y]) := by
  intro w hg
  rw [mq_slices_stableCmpFunc_scrub_Fix_] at hm
  refine GS.start (S := mayT [o78q a0_o a0_c a0] []) (mem := [(1, o78q a0_o a0_c a0)]) Try.func36 rfl Try.ntmps36 (Nat.le_of_ble_eq_true rfl) (hg.start rfl) ?_
  refine GS.conv (env' := [(0, .slice a0_o a0.length a0_c), (1, .int .i64 a1), (2, .func (.func 29) #[] #[])]) rfl rfl ?_
  refine GS.seq ?_
  refine GS.region (env' := fun _ => [(0, .slice a0_o a0.length a0_c), (1, .int .i64 a1), (2, .func (.func 29) #[] #[]), (6, .int .i64 20)]) (mem' := fun _ => [(1, o78q a0_o a0_c a0)]) (RunsTo.mk [] [0, 1, 2, 6] [1] (fun _ => []) (fun _ => by kernel_rfl) (fun _ => trivial)) ?_
  intro _
  refine GS.seq ?_
  refine GS.region (env' := fun _ => [(0, .slice a0_o a0.length a0_c), (1, .int .i64 a1), (2, .func (.func 29) #[] #[]), (6, .int .i64 20), (7, .int .i64 0), (8, .int .i64 20)]) (mem' := fun _ => [(1, o78q a0_o a0_c a0)]) (RunsTo.mk [] [0, 1, 2, 6, 7, 8] [1] (fun _ => []) (fun _ => by kernel_rfl) (fun _ => trivial)) ?_
  intro _
  refine GS.seq ?_
  refine GS.block ?_
  refine GS.loop ?_
  refine GS.rekey (env' := [(0, .slice a0_o a0.length a0_c), (1, .int .i64 a1), (2, .func (.func 29) #[] #[]), (6, .int .i64 20), (7, .int .i64 0), (8, .int .i64 20)]) (mem' := [(1, o78q a0_o a0_c a0)]) [0, 1, 2, 6, 7, 8] [(1, 1)] (by kernel_rfl) (by kernel_rfl) rfl ?_
  refine loopW_elim hm (fun st36 hst38 hm => ?_)
  refine GS.loopInv (ι := Nat × Nat × Nat × List S_scrub_Fix_v) (I := fun ⟨rs34, v7_1, v8_1, l1_1⟩ => loopW st36 rs34 (v7_1, v8_1, l1_1) = some y) (μ := fun ⟨rs34, v7_1, v8_1, l1_1⟩ => rs34) (E := fun ⟨rs34, v7_1, v8_1, l1_1⟩ => [(0, .slice a0_o l1_1.length a0_c), (1, .int .i64 a1), (2, .func (.func 29) #[] #[]), (6, .int .i64 20), (7, .int .i64 ((v7_1 : Nat) : Int)), (8, .int .i64 ((v8_1 : Nat) : Int))]) (M := fun ⟨rs34, v7_1, v8_1, l1_1⟩ => [(1, o78q a0_o a0_c l1_1)]) ?_ ⟨F, 0, 20, a0⟩ hm
  rintro ⟨rs34, v7_1, v8_1, l1_1⟩ hm ih35
  cases rs34 with
  | zero => cases hm
  | succ rs34 =>
    replace hm := (hst38 _ _).symm.trans hm
    try dsimp only at hm
    refine GS.seq ?_
    refine GS.seq ?_
    refine GS.region (env' := fun _ => [(0, .slice a0_o l1_1.length a0_c), (1, .int .i64 a1), (2, .func (.func 29) #[] #[]), (6, .int .i64 20), (7, .int .i64 ((v7_1 : Nat) : Int)), (8, .int .i64 ((v8_1 : Nat) : Int)), (13, .bool (decide (((v8_1 : Nat) : Int) ≤ a1)))]) (mem' := fun _ => [(1, o78q a0_o a0_c l1_1)]) (RunsTo.mk [] [0, 1, 2, 6, 7, 8, 13] [1] (fun _ => []) (fun _ => by kernel_rfl) (fun _ => trivial)) ?_
    intro _
    refine GS.cond (t := decide (((v8_1 : Nat) : Int) ≤ a1)) rfl rfl (fun h24 => ?_) (fun h24 => ?_)
    · replace hm := br_t h24 hm
      refine GS.skip ?_
      refine GS.block ?_
      refine GS.seq ?_
      refine bnd_elim hm (fun y26 e27 hm => ?_)
      refine grd_elim hm (fun g28 hm => ?_)
      refine GS.open_ ?_
      refine GR.run (i := 0) 4 (env' := fun _ => [(0, .slice a0_o l1_1.length a0_c), (1, .int .i64 a1), (2, .func (.func 29) #[] #[]), (6, .int .i64 20), (8, .int .i64 ((v8_1 : Nat) : Int)), (14, .slice a0_o l1_1.length a0_c), (15, .int .i64 ((v7_1 : Nat) : Int)), (16, .int .i64 ((v8_1 : Nat) : Int)), (17, .func (.func 29) #[] #[])]) (mem' := fun _ => [(1, o78q a0_o a0_c l1_1)]) (Nat.le_of_ble_eq_true (by kernel_rfl)) (RunsTo.mk [] [0, 1, 2, 6, 8, 14, 15, 16, 17] [1] (fun _ => []) (fun _ => by kernel_rfl) (fun _ => trivial)) ?_
      intro _
      refine GR.callG (X := Unit) (i := 4) (g := 51) (args := #[.slice a0_o l1_1.length a0_c, .int .i64 ((v7_1 : Nat) : Int), .int .i64 ((v8_1 : Nat) : Int), .func (.func 29) #[] #[]]) (v := fun (_ : Unit) => .tuple #[]) (own := [o78q a0_o a0_c l1_1]) (ro := []) (es' := fun (_ : Unit) => [o78q a0_o a0_c y26]) (mem' := fun (_ : Unit) => [(1, o78q a0_o a0_c y26)]) (env' := fun (_ : Unit) => [(0, .slice a0_o l1_1.length a0_c), (1, .int .i64 a1), (2, .func (.func 29) #[] #[]), (6, .int .i64 20), (8, .int .i64 ((v8_1 : Nat) : Int))]) [1] [1] [0, 1, 2, 6, 8] [1] false (by kernel_rfl) (by kernel_rfl) (by kernel_rfl) (by kernel_rfl) (by kernel_rfl) (fun _ => rfl) (fun _ _ => rfl) trivial (by rintro _; kernel_rfl) (by rintro _; kernel_rfl) (wq_slices_insertionSortCmpFunc_scrub_Fix_ F a0_o a0_c l1_1 ((v7_1 : Nat) : Int) ((v8_1 : Nat) : Int) e27) ?_
      rintro _
      refine GR.done (Nat.le_of_ble_eq_true (by kernel_rfl)) ?_
      refine GS.seq ?_
      refine GS.conv (env' := [(0, .slice a0_o y26.length a0_c), (1, .int .i64 a1), (2, .func (.func 29) #[] #[]), (6, .int .i64 20), (8, .int .i64 ((v8_1 : Nat) : Int))]) (congrArg (fun vhole : Value => [(0, vhole), (1, .int .i64 a1), (2, .func (.func 29) #[] #[]), (6, .int .i64 20), (8, .int .i64 ((v8_1 : Nat) : Int))]) (show ((.slice a0_o l1_1.length a0_c) : Value) = .slice a0_o y26.length a0_c from (by simp [g28]))) rfl ?_
      refine GS.region (env' := fun _ => [(0, .slice a0_o y26.length a0_c), (1, .int .i64 a1), (2, .func (.func 29) #[] #[]), (6, .int .i64 20), (7, .int .i64 ((v8_1 : Nat) : Int)), (8, .int .i64 ((v8_1 : Nat) : Int))]) (mem' := fun _ => [(1, o78q a0_o a0_c y26)]) (RunsTo.mk [] [0, 1, 2, 6, 7, 8] [1] (fun _ => []) (fun _ => by kernel_rfl) (fun _ => trivial)) ?_
      intro _
      refine grd_elim hm (fun g32 hm => ?_)
      refine GS.region (env' := fun _ => [(0, .slice a0_o y26.length a0_c), (1, .int .i64 a1), (2, .func (.func 29) #[] #[]), (6, .int .i64 20), (7, .int .i64 ((v8_1 : Nat) : Int)), (8, .int .i64 ((v8_1 + 20 : Nat) : Int))]) (mem' := fun _ => [(1, o78q a0_o a0_c y26)]) (RunsTo.mk [(2, { sp := some (.int .i64 ((v8_1 + 20 : Nat) : Int)) })] [0, 1, 2, 6, 7, 8] [1] (fun _ => [((.int .i64 (IntKind.i64.wrap (((v8_1 : Nat) : Int) + 20))) : Value) = .int .i64 ((v8_1 + 20 : Nat) : Int)]) (fun _ => by kernel_rfl) (fun _ => ⟨natw2 g32, trivial⟩)) ?_
      intro _
      refine GS.inBlock ?_
      refine GS.inLoop ?_
      refine GS.rekey (env' := [(0, .slice a0_o y26.length a0_c), (1, .int .i64 a1), (2, .func (.func 29) #[] #[]), (6, .int .i64 20), (7, .int .i64 ((v8_1 : Nat) : Int)), (8, .int .i64 ((v8_1 + 20 : Nat) : Int))]) (mem' := [(1, o78q a0_o a0_c y26)]) [0, 1, 2, 6, 7, 8] [(1, 1)] (by kernel_rfl) (by kernel_rfl) rfl ?_
      exact ih35 ⟨rs34, v8_1, v8_1 + 20, y26⟩ hm (Nat.lt_succ_self _)
    · replace hm := br_f h24 hm
      refine GS.exit rfl ?_
      refine GS.seq ?_
      refine bnd_elim hm (fun y41 e42 hm => ?_)
      refine grd_elim hm (fun g43 hm => ?_)
      refine GS.open_ ?_
      refine GR.run (i := 0) 4 (env' := fun _ => [(0, .slice a0_o l1_1.length a0_c), (1, .int .i64 a1), (2, .func (.func 29) #[] #[]), (6, .int .i64 20), (23, .slice a0_o l1_1.length a0_c), (24, .int .i64 ((v7_1 : Nat) : Int)), (25, .int .i64 a1), (26, .func (.func 29) #[] #[])]) (mem' := fun _ => [(1, o78q a0_o a0_c l1_1)]) (Nat.le_of_ble_eq_true (by kernel_rfl)) (RunsTo.mk [] [0, 1, 2, 6, 23, 24, 25, 26] [1] (fun _ => []) (fun _ => by kernel_rfl) (fun _ => trivial)) ?_
      intro _
      refine GR.callG (X := Unit) (i := 4) (g := 51) (args := #[.slice a0_o l1_1.length a0_c, .int .i64 ((v7_1 : Nat) : Int), .int .i64 a1, .func (.func 29) #[] #[]]) (v := fun (_ : Unit) => .tuple #[]) (own := [o78q a0_o a0_c l1_1]) (ro := []) (es' := fun (_ : Unit) => [o78q a0_o a0_c y41]) (mem' := fun (_ : Unit) => [(1, o78q a0_o a0_c y41)]) (env' := fun (_ : Unit) => [(0, .slice a0_o l1_1.length a0_c), (1, .int .i64 a1), (2, .func (.func 29) #[] #[]), (6, .int .i64 20)]) [1] [1] [0, 1, 2, 6] [1] false (by kernel_rfl) (by kernel_rfl) (by kernel_rfl) (by kernel_rfl) (by kernel_rfl) (fun _ => rfl) (fun _ _ => rfl) trivial (by rintro _; kernel_rfl) (by rintro _; kernel_rfl) (wq_slices_insertionSortCmpFunc_scrub_Fix_ F a0_o a0_c l1_1 ((v7_1 : Nat) : Int) a1 e42) ?_
      rintro _
      refine GR.done (Nat.le_of_ble_eq_true (by kernel_rfl)) ?_
      refine GS.block ?_
      refine GS.loop ?_
      refine GS.conv (env' := [(0, .slice a0_o y41.length a0_c), (1, .int .i64 a1), (2, .func (.func 29) #[] #[]), (6, .int .i64 20)]) (congrArg (fun vhole : Value => [(0, vhole), (1, .int .i64 a1), (2, .func (.func 29) #[] #[]), (6, .int .i64 20)]) (show ((.slice a0_o l1_1.length a0_c : Value) = .slice a0_o y41.length a0_c) from (by simp [g43]))) rfl ?_
      refine GS.rekey (env' := [(0, .slice a0_o y41.length a0_c), (1, .int .i64 a1), (2, .func (.func 29) #[] #[]), (6, .int .i64 20)]) (mem' := [(1, o78q a0_o a0_c y41)]) [0, 1, 2, 6] [(1, 1)] (by kernel_rfl) (by kernel_rfl) rfl ?_
      refine loopW_elim hm (fun st286 hst288 hm => ?_)
      refine GS.loopInv (ι := Nat × Int × List S_scrub_Fix_v) (I := fun ⟨rs284, v6_2, l1_2⟩ => loopW st286 rs284 (v6_2, l1_2) = some y) (μ := fun ⟨rs284, v6_2, l1_2⟩ => rs284) (E := fun ⟨rs284, v6_2, l1_2⟩ => [(0, .slice a0_o l1_2.length a0_c), (1, .int .i64 a1), (2, .func (.func 29) #[] #[]), (6, .int .i64 v6_2)]) (M := fun ⟨rs284, v6_2, l1_2⟩ => [(1, o78q a0_o a0_c l1_2)]) ?_ ⟨F, 20, y41⟩ hm
      rintro ⟨rs284, v6_2, l1_2⟩ hm ih285
      cases rs284 with
      | zero => cases hm
      | succ rs284 =>
        replace hm := (hst288 _ _).symm.trans hm
        try dsimp only at hm
        refine GS.seq ?_
        refine GS.seq ?_
        refine GS.region (env' := fun _ => [(0, .slice a0_o l1_2.length a0_c), (1, .int .i64 a1), (2, .func (.func 29) #[] #[]), (6, .int .i64 v6_2), (30, .bool (decide (v6_2 < a1)))]) (mem' := fun _ => [(1, o78q a0_o a0_c l1_2)]) (RunsTo.mk [] [0, 1, 2, 6, 30] [1] (fun _ => []) (fun _ => by kernel_rfl) (fun _ => trivial)) ?_
        intro _
        refine GS.cond (t := decide (v6_2 < a1)) rfl rfl (fun h225 => ?_) (fun h225 => ?_)
        · replace hm := br_t h225 hm
          refine GS.skip ?_
          refine GS.block ?_
          refine GS.seq ?_
          refine grd_elim hm (fun g227 hm => ?_)
          refine GS.region (env' := fun _ => [(0, .slice a0_o l1_2.length a0_c), (1, .int .i64 a1), (2, .func (.func 29) #[] #[]), (6, .int .i64 v6_2), (7, .int .i64 0), (8, .int .i64 (2 * v6_2))]) (mem' := fun _ => [(1, o78q a0_o a0_c l1_2)]) (RunsTo.mk [(1, { sp := some (.int .i64 (2 * v6_2)) })] [0, 1, 2, 6, 7, 8] [1] (fun _ => [((.int .i64 (IntKind.i64.wrap (2 * v6_2))) : Value) = .int .i64 (2 * v6_2)]) (fun _ => by kernel_rfl) (fun _ => ⟨I64.w g227, trivial⟩)) ?_
          intro _
          refine GS.seq ?_
          refine GS.block ?_
          refine GS.loop ?_
          refine GS.rekey (env' := [(0, .slice a0_o l1_2.length a0_c), (1, .int .i64 a1), (2, .func (.func 29) #[] #[]), (6, .int .i64 v6_2), (7, .int .i64 0), (8, .int .i64 (2 * v6_2))]) (mem' := [(1, o78q a0_o a0_c l1_2)]) [0, 1, 2, 6, 7, 8] [(1, 1)] (by kernel_rfl) (by kernel_rfl) rfl ?_
          refine loopW_elim hm (fun st265 hst267 hm => ?_)
          refine GS.loopInv (ι := Nat × Int × Int × List S_scrub_Fix_v) (I := fun ⟨rs263, v7_10, v8_10, l1_10⟩ => loopW st265 rs263 (v7_10, v8_10, l1_10) = some y) (μ := fun ⟨rs263, v7_10, v8_10, l1_10⟩ => rs263) (E := fun ⟨rs263, v7_10, v8_10, l1_10⟩ => [(0, .slice a0_o l1_10.length a0_c), (1, .int .i64 a1), (2, .func (.func 29) #[] #[]), (6, .int .i64 v6_2), (7, .int .i64 v7_10), (8, .int .i64 v8_10)]) (M := fun ⟨rs263, v7_10, v8_10, l1_10⟩ => [(1, o78q a0_o a0_c l1_10)]) ?_ ⟨F, 0, (2 * v6_2), l1_2⟩ hm
          rintro ⟨rs263, v7_10, v8_10, l1_10⟩ hm ih264
          cases rs263 with
          | zero => cases hm
          | succ rs263 =>
            replace hm := (hst267 _ _).symm.trans hm
            try dsimp only at hm
            refine GS.seq ?_
            refine GS.seq ?_
            refine GS.region (env' := fun _ => [(0, .slice a0_o l1_10.length a0_c), (1, .int .i64 a1), (2, .func (.func 29) #[] #[]), (6, .int .i64 v6_2), (7, .int .i64 v7_10), (8, .int .i64 v8_10), (35, .bool (decide (v8_10 ≤ a1)))]) (mem' := fun _ => [(1, o78q a0_o a0_c l1_10)]) (RunsTo.mk [] [0, 1, 2, 6, 7, 8, 35] [1] (fun _ => []) (fun _ => by kernel_rfl) (fun _ => trivial)) ?_
            intro _
            refine GS.cond (t := decide (v8_10 ≤ a1)) rfl rfl (fun h252 => ?_) (fun h252 => ?_)
            · replace hm := br_t h252 hm
              refine GS.skip ?_
              refine GS.block ?_
              refine GS.seq ?_
              refine grd_elim hm (fun g254 hm => ?_)
              refine bnd_elim hm (fun y255 e256 hm => ?_)
              refine grd_elim hm (fun g257 hm => ?_)
              refine GS.open_ ?_
              refine GR.run (i := 0) 7 (env' := fun _ => [(0, .slice a0_o l1_10.length a0_c), (1, .int .i64 a1), (2, .func (.func 29) #[] #[]), (6, .int .i64 v6_2), (8, .int .i64 v8_10), (36, .slice a0_o l1_10.length a0_c), (37, .int .i64 v7_10), (40, .int .i64 (v7_10 + v6_2)), (41, .int .i64 v8_10), (42, .func (.func 29) #[] #[])]) (mem' := fun _ => [(1, o78q a0_o a0_c l1_10)]) (Nat.le_of_ble_eq_true (by kernel_rfl)) (RunsTo.mk [(4, { sp := some (.int .i64 (v7_10 + v6_2)) })] [0, 1, 2, 6, 8, 36, 37, 40, 41, 42] [1] (fun _ => [((.int .i64 (IntKind.i64.wrap (v7_10 + v6_2))) : Value) = .int .i64 (v7_10 + v6_2)]) (fun _ => by kernel_rfl) (fun _ => ⟨I64.w g254, trivial⟩)) ?_
              intro _
              refine GR.callG (X := Unit) (i := 7) (g := 52) (args := #[.slice a0_o l1_10.length a0_c, .int .i64 v7_10, .int .i64 (v7_10 + v6_2), .int .i64 v8_10, .func (.func 29) #[] #[]]) (v := fun (_ : Unit) => .tuple #[]) (own := [o78q a0_o a0_c l1_10]) (ro := []) (es' := fun (_ : Unit) => [o78q a0_o a0_c y255]) (mem' := fun (_ : Unit) => [(1, o78q a0_o a0_c y255)]) (env' := fun (_ : Unit) => [(0, .slice a0_o l1_10.length a0_c), (1, .int .i64 a1), (2, .func (.func 29) #[] #[]), (6, .int .i64 v6_2), (8, .int .i64 v8_10)]) [1] [1] [0, 1, 2, 6, 8] [1] false (by kernel_rfl) (by kernel_rfl) (by kernel_rfl) (by kernel_rfl) (by kernel_rfl) (fun _ => rfl) (fun _ _ => rfl) trivial (by rintro _; kernel_rfl) (by rintro _; kernel_rfl) (wq_slices_symMergeCmpFunc_scrub_Fix_ F a0_o a0_c l1_10 v7_10 (v7_10 + v6_2) v8_10 e256) ?_
              rintro _
              refine GR.done (Nat.le_of_ble_eq_true (by kernel_rfl)) ?_
              refine GS.seq ?_
              refine GS.conv (env' := [(0, .slice a0_o y255.length a0_c), (1, .int .i64 a1), (2, .func (.func 29) #[] #[]), (6, .int .i64 v6_2), (8, .int .i64 v8_10)]) (congrArg (fun vhole : Value => [(0, vhole), (1, .int .i64 a1), (2, .func (.func 29) #[] #[]), (6, .int .i64 v6_2), (8, .int .i64 v8_10)]) (show ((.slice a0_o l1_10.length a0_c) : Value) = .slice a0_o y255.length a0_c from (by simp [g43, g257]))) rfl ?_
              refine GS.region (env' := fun _ => [(0, .slice a0_o y255.length a0_c), (1, .int .i64 a1), (2, .func (.func 29) #[] #[]), (6, .int .i64 v6_2), (7, .int .i64 v8_10), (8, .int .i64 v8_10)]) (mem' := fun _ => [(1, o78q a0_o a0_c y255)]) (RunsTo.mk [] [0, 1, 2, 6, 7, 8] [1] (fun _ => []) (fun _ => by kernel_rfl) (fun _ => trivial)) ?_
              intro _
              refine grd_elim hm (fun g261 hm => ?_)
              refine GS.region (env' := fun _ => [(0, .slice a0_o y255.length a0_c), (1, .int .i64 a1), (2, .func (.func 29) #[] #[]), (6, .int .i64 v6_2), (7, .int .i64 v8_10), (8, .int .i64 (v8_10 + (2 * v6_2)))]) (mem' := fun _ => [(1, o78q a0_o a0_c y255)]) (RunsTo.mk [(2, { sp := some (.int .i64 (2 * v6_2)) }), (3, { sp := some (.int .i64 (v8_10 + (2 * v6_2))) })] [0, 1, 2, 6, 7, 8] [1] (fun _ => [((.int .i64 (IntKind.i64.wrap (2 * v6_2))) : Value) = .int .i64 (2 * v6_2), ((.int .i64 (IntKind.i64.wrap (v8_10 + (2 * v6_2)))) : Value) = .int .i64 (v8_10 + (2 * v6_2))]) (fun _ => by kernel_rfl) (fun _ => ⟨I64.w g227, I64.w g261, trivial⟩)) ?_
              intro _
              refine GS.inBlock ?_
              refine GS.inLoop ?_
              refine GS.rekey (env' := [(0, .slice a0_o y255.length a0_c), (1, .int .i64 a1), (2, .func (.func 29) #[] #[]), (6, .int .i64 v6_2), (7, .int .i64 v8_10), (8, .int .i64 (v8_10 + (2 * v6_2)))]) (mem' := [(1, o78q a0_o a0_c y255)]) [0, 1, 2, 6, 7, 8] [(1, 1)] (by kernel_rfl) (by kernel_rfl) rfl ?_
              exact ih264 ⟨rs263, v8_10, (v8_10 + (2 * v6_2)), y255⟩ hm (Nat.lt_succ_self _)
            · replace hm := br_f h252 hm
              refine GS.exit rfl ?_
              refine GS.seq ?_
              refine GS.seq ?_
              refine grd_elim hm (fun g270 hm => ?_)
              refine GS.region (env' := fun _ => [(0, .slice a0_o l1_10.length a0_c), (1, .int .i64 a1), (2, .func (.func 29) #[] #[]), (6, .int .i64 v6_2), (7, .int .i64 v7_10), (9, .int .i64 (v7_10 + v6_2))]) (mem' := fun _ => [(1, o78q a0_o a0_c l1_10)]) (RunsTo.mk [(2, { sp := some (.int .i64 (v7_10 + v6_2)) })] [0, 1, 2, 6, 7, 9] [1] (fun _ => [((.int .i64 (IntKind.i64.wrap (v7_10 + v6_2))) : Value) = .int .i64 (v7_10 + v6_2)]) (fun _ => by kernel_rfl) (fun _ => ⟨I64.w g270, trivial⟩)) ?_
              intro _
              refine GS.seq ?_
              refine GS.region (env' := fun _ => [(0, .slice a0_o l1_10.length a0_c), (1, .int .i64 a1), (2, .func (.func 29) #[] #[]), (6, .int .i64 v6_2), (7, .int .i64 v7_10), (9, .int .i64 (v7_10 + v6_2)), (54, .bool (decide ((v7_10 + v6_2) < a1)))]) (mem' := fun _ => [(1, o78q a0_o a0_c l1_10)]) (RunsTo.mk [] [0, 1, 2, 6, 7, 9, 54] [1] (fun _ => []) (fun _ => by kernel_rfl) (fun _ => trivial)) ?_
              intro _
              refine jn_elim hm (fun J278 hJ280 hm => ?_)
              refine GS.cut (ι := List S_scrub_Fix_v) (I := fun (l1_11 : List S_scrub_Fix_v) => J278 l1_11 = some y) (E := fun (l1_11 : List S_scrub_Fix_v) => [(0, .slice a0_o l1_11.length a0_c), (1, .int .i64 a1), (2, .func (.func 29) #[] #[]), (6, .int .i64 v6_2)]) (M := fun (l1_11 : List S_scrub_Fix_v) => [(1, o78q a0_o a0_c l1_11)]) ?_ ?_
              rotate_left
              · intro H279
                refine GS.cond (t := decide ((v7_10 + v6_2) < a1)) rfl rfl (fun h272 => ?_) (fun h272 => ?_)
                · replace hm := br_t h272 hm
                  refine bnd_elim hm (fun y274 e275 hm => ?_)
                  refine grd_elim hm (fun g276 hm => ?_)
                  refine GS.open_ ?_
                  refine GR.run (i := 0) 5 (env' := fun _ => [(0, .slice a0_o l1_10.length a0_c), (1, .int .i64 a1), (2, .func (.func 29) #[] #[]), (6, .int .i64 v6_2), (55, .slice a0_o l1_10.length a0_c), (56, .int .i64 v7_10), (57, .int .i64 (v7_10 + v6_2)), (58, .int .i64 a1), (59, .func (.func 29) #[] #[])]) (mem' := fun _ => [(1, o78q a0_o a0_c l1_10)]) (Nat.le_of_ble_eq_true (by kernel_rfl)) (RunsTo.mk [] [0, 1, 2, 6, 55, 56, 57, 58, 59] [1] (fun _ => []) (fun _ => by kernel_rfl) (fun _ => trivial)) ?_
                  intro _
                  refine GR.callG (X := Unit) (i := 5) (g := 52) (args := #[.slice a0_o l1_10.length a0_c, .int .i64 v7_10, .int .i64 (v7_10 + v6_2), .int .i64 a1, .func (.func 29) #[] #[]]) (v := fun (_ : Unit) => .tuple #[]) (own := [o78q a0_o a0_c l1_10]) (ro := []) (es' := fun (_ : Unit) => [o78q a0_o a0_c y274]) (mem' := fun (_ : Unit) => [(1, o78q a0_o a0_c y274)]) (env' := fun (_ : Unit) => [(0, .slice a0_o l1_10.length a0_c), (1, .int .i64 a1), (2, .func (.func 29) #[] #[]), (6, .int .i64 v6_2)]) [1] [1] [0, 1, 2, 6] [1] false (by kernel_rfl) (by kernel_rfl) (by kernel_rfl) (by kernel_rfl) (by kernel_rfl) (fun _ => rfl) (fun _ _ => rfl) trivial (by rintro _; kernel_rfl) (by rintro _; kernel_rfl) (wq_slices_symMergeCmpFunc_scrub_Fix_ F a0_o a0_c l1_10 v7_10 (v7_10 + v6_2) a1 e275) ?_
                  rintro _
                  refine GR.done (Nat.le_of_ble_eq_true (by kernel_rfl)) ?_
                  refine GS.conv (env' := [(0, .slice a0_o y274.length a0_c), (1, .int .i64 a1), (2, .func (.func 29) #[] #[]), (6, .int .i64 v6_2)]) (congrArg (fun vhole : Value => [(0, vhole), (1, .int .i64 a1), (2, .func (.func 29) #[] #[]), (6, .int .i64 v6_2)]) (show ((.slice a0_o l1_10.length a0_c : Value) = .slice a0_o y274.length a0_c) from (by simp [g43, g276]))) rfl ?_
                  refine GS.rekey (env' := [(0, .slice a0_o y274.length a0_c), (1, .int .i64 a1), (2, .func (.func 29) #[] #[]), (6, .int .i64 v6_2)]) (mem' := [(1, o78q a0_o a0_c y274)]) [0, 1, 2, 6] [(1, 1)] (by kernel_rfl) (by kernel_rfl) rfl ?_
                  exact H279 y274 hm
                · replace hm := br_f h272 hm
                  refine GS.skip ?_
                  refine GS.rekey (env' := [(0, .slice a0_o l1_10.length a0_c), (1, .int .i64 a1), (2, .func (.func 29) #[] #[]), (6, .int .i64 v6_2)]) (mem' := [(1, o78q a0_o a0_c l1_10)]) [0, 1, 2, 6] [(1, 1)] (by kernel_rfl) (by kernel_rfl) rfl ?_
                  exact H279 l1_10 hm
              · rintro l1_11 hm
                replace hm := (hJ280 _).symm.trans hm
                try dsimp only at hm
                refine grd_elim hm (fun g282 hm => ?_)
                refine GS.region (env' := fun _ => [(0, .slice a0_o l1_11.length a0_c), (1, .int .i64 a1), (2, .func (.func 29) #[] #[]), (6, .int .i64 (v6_2 * 2))]) (mem' := fun _ => [(1, o78q a0_o a0_c l1_11)]) (RunsTo.mk [(1, { sp := some (.int .i64 (v6_2 * 2)) })] [0, 1, 2, 6] [1] (fun _ => [((.int .i64 (IntKind.i64.wrap (v6_2 * 2))) : Value) = .int .i64 (v6_2 * 2)]) (fun _ => by kernel_rfl) (fun _ => ⟨I64.w g282, trivial⟩)) ?_
                intro _
                refine GS.inBlock ?_
                refine GS.inLoop ?_
                refine GS.rekey (env' := [(0, .slice a0_o l1_11.length a0_c), (1, .int .i64 a1), (2, .func (.func 29) #[] #[]), (6, .int .i64 (v6_2 * 2))]) (mem' := [(1, o78q a0_o a0_c l1_11)]) [0, 1, 2, 6] [(1, 1)] (by kernel_rfl) (by kernel_rfl) rfl ?_
                exact ih285 ⟨rs284, (v6_2 * 2), l1_11⟩ hm (Nat.lt_succ_self _)
        · replace hm := br_f h225 hm
          refine GS.exit rfl ?_
          have hy := Option.some.inj hm
          subst hy
          refine GS.end_ (fn := Try.f36) [] [] [] rfl Try.func36 (by kernel_rfl) trivial (fun w' hs => ?_)
          exact ⟨(), rfl, hs.turnedG (ks := [1]) rfl rfl⟩

theorem wq_slices_SortStableFunc___scrub_Fix_scrub_Fix_ (F : Nat) (a0_o : Option Addr) (a0_c : Nat) (a0 : List S_scrub_Fix_v) {y : List S_scrub_Fix_v} (hm : mq_slices_SortStableFunc___scrub_Fix_scrub_Fix_ F a0 = some y) : CallG Try.prog 28 #[.slice a0_o a0.length a0_c, .func (.func 29) #[] #[]] (X := Unit) (fun (_ : Unit) => .tuple #[]) [o78q a0_o a0_c a0] [] (fun (_ : Unit) => [o78q a0_o a0_c y]) := by
  intro w hg
  rw [mq_slices_SortStableFunc___scrub_Fix_scrub_Fix_] at hm
  refine GS.start (S := mayT [o78q a0_o a0_c a0] []) (mem := [(1, o78q a0_o a0_c a0)]) Try.func28 rfl Try.ntmps28 (Nat.le_of_ble_eq_true rfl) (hg.start rfl) ?_
  refine GS.conv (env' := [(0, .slice a0_o a0.length a0_c), (1, .func (.func 29) #[] #[])]) rfl rfl ?_
  refine bnd_elim hm (fun y2 e3 hm => ?_)
  refine grd_elim hm (fun g4 hm => ?_)
  refine GS.open_ ?_
  refine GR.run (i := 0) 4 (env' := fun _ => [(4, .slice a0_o a0.length a0_c), (6, .int .i64 ((a0.length : Nat) : Int)), (7, .func (.func 29) #[] #[])]) (mem' := fun _ => [(1, o78q a0_o a0_c a0)]) (Nat.le_of_ble_eq_true (by kernel_rfl)) (RunsTo.mk [] [4, 6, 7] [1] (fun _ => []) (fun _ => by kernel_rfl) (fun _ => trivial)) ?_
  intro _
  refine GR.callG (X := Unit) (i := 4) (g := 36) (args := #[.slice a0_o a0.length a0_c, .int .i64 ((a0.length : Nat) : Int), .func (.func 29) #[] #[]]) (v := fun (_ : Unit) => .tuple #[]) (own := [o78q a0_o a0_c a0]) (ro := []) (es' := fun (_ : Unit) => [o78q a0_o a0_c y2]) (mem' := fun (_ : Unit) => [(1, o78q a0_o a0_c y2)]) (env' := fun (_ : Unit) => []) [1] [1] [] [1] false (by kernel_rfl) (by kernel_rfl) (by kernel_rfl) (by kernel_rfl) (by kernel_rfl) (fun _ => rfl) (fun _ _ => rfl) trivial (by rintro _; kernel_rfl) (by rintro _; kernel_rfl) (wq_slices_stableCmpFunc_scrub_Fix_ F a0_o a0_c a0 ((a0.length : Nat) : Int) e3) ?_
  rintro _
  refine GR.done (Nat.le_of_ble_eq_true (by kernel_rfl)) ?_
  have hy := Option.some.inj hm
  subst hy
  refine GS.end_ (fn := Try.f28) [] [] [] rfl Try.func28 (by kernel_rfl) trivial (fun w' hs => ?_)
  exact ⟨(), rfl, hs.turnedG (ks := [1]) rfl rfl⟩

end Go.Proofs.Ytcegkgbceogflaa
