/-
  CHAPTER 16: the walks of Cmp and Les.
-/
import Derived.Test.YthaokdobgmbeeaaWcmp
import Derived.Test.YthaokdobgmbeeaaPinf
set_option linter.unusedVariables false
set_option linter.unusedSimpArgs false
set_option maxRecDepth 100000
namespace Go.Proofs.Ythaokdobgmbeeaa
open Go Go.RowKit Sx

theorem infcmp_ok (x y : Inf) : CallOK Try.prog 14 #[.agg #[.int .i64 x.les, .int .i64 x.he, .int .i64 x.hn, .int .i64 x.te, .int .i64 x.tn, .int .i64 x.born], .agg #[.int .i64 y.les, .int .i64 y.he, .int .i64 y.hn, .int .i64 y.te, .int .i64 y.tn, .int .i64 y.born]] (.int .i64 (infF x y)) [] := by
  intro w _
  refine GS.start (S := fun _ => False) (mem := []) Try.func14 rfl Try.ntmps14 (Nat.le_of_ble_eq_true rfl) Sat.start ?_
  refine GS.conv (env' := [(0, .agg #[.int .i64 x.les, .int .i64 x.he, .int .i64 x.hn, .int .i64 x.te, .int .i64 x.tn, .int .i64 x.born]), (1, .agg #[.int .i64 y.les, .int .i64 y.he, .int .i64 y.hn, .int .i64 y.te, .int .i64 y.tn, .int .i64 y.born])]) rfl rfl ?_
  refine GS.seq ?_
  -- region 0, authority.go:23
  refine GS.region (env' := fun fr0 => [(2, .pointer (some ⟨(fr0 0).x, 0, none⟩)), (3, .pointer (some ⟨(fr0 1).x, 0, none⟩))]) (mem' := fun fr0 => [(1, .cells ((fr0 0).x) 34 [.int .i64 x.les, .int .i64 x.he, .int .i64 x.hn, .int .i64 x.te, .int .i64 x.tn, .int .i64 x.born]), (2, .cells ((fr0 1).x) 34 [.int .i64 y.les, .int .i64 y.he, .int .i64 y.hn, .int .i64 y.te, .int .i64 y.tn, .int .i64 y.born])]) (RunsTo.mk [(0, { act := .new .var, key := some 1 }), (1, { act := .new .var, key := some 2 })] [2, 3] [1, 2] (fun fr0 => []) (fun fr0 => by kernel_rfl) (fun fr0 => trivial)) ?_
  intro fr0
  refine GS.seq ?_
  refine GS.block ?_
  refine GS.seq ?_
  -- region 1, authority.go:25
  refine GS.region (env' := fun _ => [(2, .pointer (some ⟨(fr0 0).x, 0, none⟩)), (3, .pointer (some ⟨(fr0 1).x, 0, none⟩)), (6, .bool (decide (x.les > y.les)))]) (mem' := fun _ => [(1, .cells ((fr0 0).x) 34 [.int .i64 x.les, .int .i64 x.he, .int .i64 x.hn, .int .i64 x.te, .int .i64 x.tn, .int .i64 x.born]), (2, .cells ((fr0 1).x) 34 [.int .i64 y.les, .int .i64 y.he, .int .i64 y.hn, .int .i64 y.te, .int .i64 y.tn, .int .i64 y.born])]) (RunsTo.mk [(1, { act := .load 1 0 0 [] }), (3, { act := .load 2 0 0 [] })] [2, 3, 6] [1, 2] (fun _ => [(fr0 0).x = (fr0 0).x, (fr0 1).x = (fr0 1).x]) (fun _ => by kernel_rfl) (fun _ => ⟨rfl, rfl, trivial⟩)) ?_
  intro _
  refine GS.cond (t := decide (x.les > y.les)) rfl rfl (fun h0 => ?_) (fun h0 => ?_)
  · replace h0 := of_decide_eq_true h0
    refine GS.seq ?_
    -- region 2, authority.go:26
    refine GS.region (env' := fun _ => [(4, .int .i64 1)]) (mem' := fun _ => [(1, .cells ((fr0 0).x) 34 [.int .i64 x.les, .int .i64 x.he, .int .i64 x.hn, .int .i64 x.te, .int .i64 x.tn, .int .i64 x.born]), (2, .cells ((fr0 1).x) 34 [.int .i64 y.les, .int .i64 y.he, .int .i64 y.hn, .int .i64 y.te, .int .i64 y.tn, .int .i64 y.born])]) (RunsTo.mk [] [4] [1, 2] (fun _ => []) (fun _ => by kernel_rfl) (fun _ => trivial)) ?_
    intro _
    refine GS.ret (fn := Try.f14) [0] [.int .i64 1] [] rfl Try.func14 (by kernel_rfl) trivial (fun w' hs => ?_)
    exact ⟨by unfold infF; (repeat' split) <;> first | rfl | (exfalso; omega), hs.keep⟩
  · replace h0 := of_decide_eq_false h0
    refine GS.seq ?_
    -- region 3, authority.go:27
    refine GS.region (env' := fun _ => [(2, .pointer (some ⟨(fr0 0).x, 0, none⟩)), (3, .pointer (some ⟨(fr0 1).x, 0, none⟩)), (12, .bool (decide (x.les < y.les)))]) (mem' := fun _ => [(1, .cells ((fr0 0).x) 34 [.int .i64 x.les, .int .i64 x.he, .int .i64 x.hn, .int .i64 x.te, .int .i64 x.tn, .int .i64 x.born]), (2, .cells ((fr0 1).x) 34 [.int .i64 y.les, .int .i64 y.he, .int .i64 y.hn, .int .i64 y.te, .int .i64 y.tn, .int .i64 y.born])]) (RunsTo.mk [(1, { act := .load 1 0 0 [] }), (3, { act := .load 2 0 0 [] })] [2, 3, 12] [1, 2] (fun _ => [(fr0 0).x = (fr0 0).x, (fr0 1).x = (fr0 1).x]) (fun _ => by kernel_rfl) (fun _ => ⟨rfl, rfl, trivial⟩)) ?_
    intro _
    refine GS.cond (t := decide (x.les < y.les)) rfl rfl (fun h1 => ?_) (fun h1 => ?_)
    · replace h1 := of_decide_eq_true h1
      refine GS.seq ?_
      -- region 4, authority.go:28
      refine GS.region (env' := fun _ => [(4, .int .i64 (-1))]) (mem' := fun _ => [(1, .cells ((fr0 0).x) 34 [.int .i64 x.les, .int .i64 x.he, .int .i64 x.hn, .int .i64 x.te, .int .i64 x.tn, .int .i64 x.born]), (2, .cells ((fr0 1).x) 34 [.int .i64 y.les, .int .i64 y.he, .int .i64 y.hn, .int .i64 y.te, .int .i64 y.tn, .int .i64 y.born])]) (RunsTo.mk [] [4] [1, 2] (fun _ => []) (fun _ => by kernel_rfl) (fun _ => trivial)) ?_
      intro _
      refine GS.ret (fn := Try.f14) [0] [.int .i64 (-1)] [] rfl Try.func14 (by kernel_rfl) trivial (fun w' hs => ?_)
      exact ⟨by unfold infF; (repeat' split) <;> first | rfl | (exfalso; omega), hs.keep⟩
    · replace h1 := of_decide_eq_false h1
      refine GS.skip ?_
      refine GS.inBlock ?_
      refine GS.seq ?_
      refine GS.seq ?_
      -- region 5, authority.go:30
      refine GS.region (env' := fun _ => [(2, .pointer (some ⟨(fr0 0).x, 0, none⟩)), (3, .pointer (some ⟨(fr0 1).x, 0, none⟩)), (5, .int .i64 (verF x.he x.hn y.he y.hn))]) (mem' := fun _ => [(1, .cells ((fr0 0).x) 34 [.int .i64 x.les, .int .i64 x.he, .int .i64 x.hn, .int .i64 x.te, .int .i64 x.tn, .int .i64 x.born]), (2, .cells ((fr0 1).x) 34 [.int .i64 y.les, .int .i64 y.he, .int .i64 y.hn, .int .i64 y.te, .int .i64 y.tn, .int .i64 y.born])]) (RunsTo.mk [(1, { act := .load 1 0 0 [] }), (3, { act := .load 2 0 0 [] }), (4, { act := .call [] (.int .i64 (verF x.he x.hn y.he y.hn)) })] [2, 3, 5] [1, 2] (fun _ => [(fr0 0).x = (fr0 0).x, (fr0 1).x = (fr0 1).x, CallOK Try.prog 23 #[.agg #[.int .i64 x.he, .int .i64 x.hn], .agg #[.int .i64 y.he, .int .i64 y.hn]] (.int .i64 (verF x.he x.hn y.he y.hn)) []]) (fun _ => by kernel_rfl) (fun _ => ⟨rfl, rfl, pgcmp_ok x.he x.hn y.he y.hn, trivial⟩)) ?_
      intro _
      refine GS.seq ?_
      -- region 6, authority.go:30
      refine GS.region (env' := fun _ => [(2, .pointer (some ⟨(fr0 0).x, 0, none⟩)), (3, .pointer (some ⟨(fr0 1).x, 0, none⟩)), (5, .int .i64 (verF x.he x.hn y.he y.hn)), (24, .bool ((verF x.he x.hn y.he y.hn) != 0))]) (mem' := fun _ => [(1, .cells ((fr0 0).x) 34 [.int .i64 x.les, .int .i64 x.he, .int .i64 x.hn, .int .i64 x.te, .int .i64 x.tn, .int .i64 x.born]), (2, .cells ((fr0 1).x) 34 [.int .i64 y.les, .int .i64 y.he, .int .i64 y.hn, .int .i64 y.te, .int .i64 y.tn, .int .i64 y.born])]) (RunsTo.mk [] [2, 3, 5, 24] [1, 2] (fun _ => []) (fun _ => by kernel_rfl) (fun _ => trivial)) ?_
      intro _
      refine GS.cond (t := (verF x.he x.hn y.he y.hn) != 0) rfl rfl (fun h2 => ?_) (fun h2 => ?_)
      · replace h2 := ne_of_bne h2
        refine GS.seq ?_
        -- region 7, authority.go:31
        refine GS.region (env' := fun _ => [(4, .int .i64 (verF x.he x.hn y.he y.hn))]) (mem' := fun _ => [(1, .cells ((fr0 0).x) 34 [.int .i64 x.les, .int .i64 x.he, .int .i64 x.hn, .int .i64 x.te, .int .i64 x.tn, .int .i64 x.born]), (2, .cells ((fr0 1).x) 34 [.int .i64 y.les, .int .i64 y.he, .int .i64 y.hn, .int .i64 y.te, .int .i64 y.tn, .int .i64 y.born])]) (RunsTo.mk [] [4] [1, 2] (fun _ => []) (fun _ => by kernel_rfl) (fun _ => trivial)) ?_
        intro _
        refine GS.ret (fn := Try.f14) [0] [.int .i64 (verF x.he x.hn y.he y.hn)] [] rfl Try.func14 (by kernel_rfl) trivial (fun w' hs => ?_)
        exact ⟨by unfold infF; (repeat' split) <;> first | rfl | (exfalso; omega), hs.keep⟩
      · replace h2 := eq_of_bne_false h2
        refine GS.skip ?_
        refine GS.seq ?_
        -- region 8, authority.go:33
        refine GS.region (env' := fun _ => [(4, .int .i64 (verF y.te y.tn x.te x.tn))]) (mem' := fun _ => [(1, .cells ((fr0 0).x) 34 [.int .i64 x.les, .int .i64 x.he, .int .i64 x.hn, .int .i64 x.te, .int .i64 x.tn, .int .i64 x.born]), (2, .cells ((fr0 1).x) 34 [.int .i64 y.les, .int .i64 y.he, .int .i64 y.hn, .int .i64 y.te, .int .i64 y.tn, .int .i64 y.born])]) (RunsTo.mk [(1, { act := .load 2 0 0 [] }), (3, { act := .load 1 0 0 [] }), (4, { act := .call [] (.int .i64 (verF y.te y.tn x.te x.tn)) })] [4] [1, 2] (fun _ => [(fr0 1).x = (fr0 1).x, (fr0 0).x = (fr0 0).x, CallOK Try.prog 23 #[.agg #[.int .i64 y.te, .int .i64 y.tn], .agg #[.int .i64 x.te, .int .i64 x.tn]] (.int .i64 (verF y.te y.tn x.te x.tn)) []]) (fun _ => by kernel_rfl) (fun _ => ⟨rfl, rfl, pgcmp_ok y.te y.tn x.te x.tn, trivial⟩)) ?_
        intro _
        refine GS.ret (fn := Try.f14) [0] [.int .i64 (verF y.te y.tn x.te x.tn)] [] rfl Try.func14 (by kernel_rfl) trivial (fun w' hs => ?_)
        exact ⟨by unfold infF; (repeat' split) <;> first | rfl | (exfalso; omega), hs.keep⟩

theorem infcmpref_ok (x y : Inf) : CallOK Try.prog 15 #[.agg #[.int .i64 x.les, .int .i64 x.he, .int .i64 x.hn, .int .i64 x.te, .int .i64 x.tn, .int .i64 x.born], .agg #[.int .i64 y.les, .int .i64 y.he, .int .i64 y.hn, .int .i64 y.te, .int .i64 y.tn, .int .i64 y.born]] (.int .i64 (infF x y)) [] := by
  intro w _
  refine GS.start (S := fun _ => False) (mem := []) Try.func15 rfl Try.ntmps15 (Nat.le_of_ble_eq_true rfl) Sat.start ?_
  refine GS.conv (env' := [(0, .agg #[.int .i64 x.les, .int .i64 x.he, .int .i64 x.hn, .int .i64 x.te, .int .i64 x.tn, .int .i64 x.born]), (1, .agg #[.int .i64 y.les, .int .i64 y.he, .int .i64 y.hn, .int .i64 y.te, .int .i64 y.tn, .int .i64 y.born])]) rfl rfl ?_
  refine GS.seq ?_
  -- region 0, ref.go:21
  refine GS.region (env' := fun fr0 => [(2, .pointer (some ⟨(fr0 0).x, 0, none⟩)), (3, .pointer (some ⟨(fr0 1).x, 0, none⟩))]) (mem' := fun fr0 => [(1, .cells ((fr0 0).x) 34 [.int .i64 x.les, .int .i64 x.he, .int .i64 x.hn, .int .i64 x.te, .int .i64 x.tn, .int .i64 x.born]), (2, .cells ((fr0 1).x) 34 [.int .i64 y.les, .int .i64 y.he, .int .i64 y.hn, .int .i64 y.te, .int .i64 y.tn, .int .i64 y.born])]) (RunsTo.mk [(0, { act := .new .var, key := some 1 }), (1, { act := .new .var, key := some 2 })] [2, 3] [1, 2] (fun fr0 => []) (fun fr0 => by kernel_rfl) (fun fr0 => trivial)) ?_
  intro fr0
  refine GS.seq ?_
  refine GS.seq ?_
  -- region 1, ref.go:22
  refine GS.region (env' := fun _ => [(2, .pointer (some ⟨(fr0 0).x, 0, none⟩)), (3, .pointer (some ⟨(fr0 1).x, 0, none⟩)), (10, .bool (x.les != y.les))]) (mem' := fun _ => [(1, .cells ((fr0 0).x) 34 [.int .i64 x.les, .int .i64 x.he, .int .i64 x.hn, .int .i64 x.te, .int .i64 x.tn, .int .i64 x.born]), (2, .cells ((fr0 1).x) 34 [.int .i64 y.les, .int .i64 y.he, .int .i64 y.hn, .int .i64 y.te, .int .i64 y.tn, .int .i64 y.born])]) (RunsTo.mk [(1, { act := .load 1 0 0 [] }), (3, { act := .load 2 0 0 [] })] [2, 3, 10] [1, 2] (fun _ => [(fr0 0).x = (fr0 0).x, (fr0 1).x = (fr0 1).x]) (fun _ => by kernel_rfl) (fun _ => ⟨rfl, rfl, trivial⟩)) ?_
  intro _
  refine GS.cond (t := x.les != y.les) rfl rfl (fun h0 => ?_) (fun h0 => ?_)
  · replace h0 := ne_of_bne h0
    refine GS.seq ?_
    refine GS.seq ?_
    -- region 2, ref.go:23
    refine GS.region (env' := fun _ => [(15, .bool (decide (x.les < y.les)))]) (mem' := fun _ => [(1, .cells ((fr0 0).x) 34 [.int .i64 x.les, .int .i64 x.he, .int .i64 x.hn, .int .i64 x.te, .int .i64 x.tn, .int .i64 x.born]), (2, .cells ((fr0 1).x) 34 [.int .i64 y.les, .int .i64 y.he, .int .i64 y.hn, .int .i64 y.te, .int .i64 y.tn, .int .i64 y.born])]) (RunsTo.mk [(1, { act := .load 1 0 0 [] }), (3, { act := .load 2 0 0 [] })] [15] [1, 2] (fun _ => [(fr0 0).x = (fr0 0).x, (fr0 1).x = (fr0 1).x]) (fun _ => by kernel_rfl) (fun _ => ⟨rfl, rfl, trivial⟩)) ?_
    intro _
    refine GS.cond (t := decide (x.les < y.les)) rfl rfl (fun h1 => ?_) (fun h1 => ?_)
    · replace h1 := of_decide_eq_true h1
      refine GS.seq ?_
      -- region 3, ref.go:24
      refine GS.region (env' := fun _ => [(4, .int .i64 (-1))]) (mem' := fun _ => [(1, .cells ((fr0 0).x) 34 [.int .i64 x.les, .int .i64 x.he, .int .i64 x.hn, .int .i64 x.te, .int .i64 x.tn, .int .i64 x.born]), (2, .cells ((fr0 1).x) 34 [.int .i64 y.les, .int .i64 y.he, .int .i64 y.hn, .int .i64 y.te, .int .i64 y.tn, .int .i64 y.born])]) (RunsTo.mk [] [4] [1, 2] (fun _ => []) (fun _ => by kernel_rfl) (fun _ => trivial)) ?_
      intro _
      refine GS.ret (fn := Try.f15) [0] [.int .i64 (-1)] [] rfl Try.func15 (by kernel_rfl) trivial (fun w' hs => ?_)
      exact ⟨by unfold infF; (repeat' split) <;> first | rfl | (exfalso; omega), hs.keep⟩
    · replace h1 := of_decide_eq_false h1
      refine GS.skip ?_
      refine GS.seq ?_
      -- region 4, ref.go:26
      refine GS.region (env' := fun _ => [(4, .int .i64 1)]) (mem' := fun _ => [(1, .cells ((fr0 0).x) 34 [.int .i64 x.les, .int .i64 x.he, .int .i64 x.hn, .int .i64 x.te, .int .i64 x.tn, .int .i64 x.born]), (2, .cells ((fr0 1).x) 34 [.int .i64 y.les, .int .i64 y.he, .int .i64 y.hn, .int .i64 y.te, .int .i64 y.tn, .int .i64 y.born])]) (RunsTo.mk [] [4] [1, 2] (fun _ => []) (fun _ => by kernel_rfl) (fun _ => trivial)) ?_
      intro _
      refine GS.ret (fn := Try.f15) [0] [.int .i64 1] [] rfl Try.func15 (by kernel_rfl) trivial (fun w' hs => ?_)
      exact ⟨by unfold infF; (repeat' split) <;> first | rfl | (exfalso; omega), hs.keep⟩
  · replace h0 := eq_of_bne_false h0
    refine GS.skip ?_
    refine GS.seq ?_
    -- region 5, ref.go:28
    refine GS.region (env' := fun _ => [(2, .pointer (some ⟨(fr0 0).x, 0, none⟩)), (3, .pointer (some ⟨(fr0 1).x, 0, none⟩)), (5, .int .i64 (verF x.he x.hn y.he y.hn))]) (mem' := fun _ => [(1, .cells ((fr0 0).x) 34 [.int .i64 x.les, .int .i64 x.he, .int .i64 x.hn, .int .i64 x.te, .int .i64 x.tn, .int .i64 x.born]), (2, .cells ((fr0 1).x) 34 [.int .i64 y.les, .int .i64 y.he, .int .i64 y.hn, .int .i64 y.te, .int .i64 y.tn, .int .i64 y.born])]) (RunsTo.mk [(1, { act := .load 1 0 0 [] }), (3, { act := .load 2 0 0 [] }), (4, { act := .call [] (.int .i64 (verF x.he x.hn y.he y.hn)) })] [2, 3, 5] [1, 2] (fun _ => [(fr0 0).x = (fr0 0).x, (fr0 1).x = (fr0 1).x, CallOK Try.prog 24 #[.agg #[.int .i64 x.he, .int .i64 x.hn], .agg #[.int .i64 y.he, .int .i64 y.hn]] (.int .i64 (verF x.he x.hn y.he y.hn)) []]) (fun _ => by kernel_rfl) (fun _ => ⟨rfl, rfl, refcmp_ok x.he x.hn y.he y.hn, trivial⟩)) ?_
    intro _
    refine GS.seq ?_
    refine GS.seq ?_
    -- region 6, ref.go:29
    refine GS.region (env' := fun _ => [(2, .pointer (some ⟨(fr0 0).x, 0, none⟩)), (3, .pointer (some ⟨(fr0 1).x, 0, none⟩)), (5, .int .i64 (verF x.he x.hn y.he y.hn)), (22, .bool ((verF x.he x.hn y.he y.hn) == 0))]) (mem' := fun _ => [(1, .cells ((fr0 0).x) 34 [.int .i64 x.les, .int .i64 x.he, .int .i64 x.hn, .int .i64 x.te, .int .i64 x.tn, .int .i64 x.born]), (2, .cells ((fr0 1).x) 34 [.int .i64 y.les, .int .i64 y.he, .int .i64 y.hn, .int .i64 y.te, .int .i64 y.tn, .int .i64 y.born])]) (RunsTo.mk [] [2, 3, 5, 22] [1, 2] (fun _ => []) (fun _ => by kernel_rfl) (fun _ => trivial)) ?_
    intro _
    refine GS.cond (t := (verF x.he x.hn y.he y.hn) == 0) rfl rfl (fun h1 => ?_) (fun h1 => ?_)
    · replace h1 := eq_of_beq h1
      -- region 7, ref.go:30
      refine GS.region (env' := fun _ => [(5, .int .i64 (verF y.te y.tn x.te x.tn))]) (mem' := fun _ => [(1, .cells ((fr0 0).x) 34 [.int .i64 x.les, .int .i64 x.he, .int .i64 x.hn, .int .i64 x.te, .int .i64 x.tn, .int .i64 x.born]), (2, .cells ((fr0 1).x) 34 [.int .i64 y.les, .int .i64 y.he, .int .i64 y.hn, .int .i64 y.te, .int .i64 y.tn, .int .i64 y.born])]) (RunsTo.mk [(1, { act := .load 2 0 0 [] }), (3, { act := .load 1 0 0 [] }), (4, { act := .call [] (.int .i64 (verF y.te y.tn x.te x.tn)) })] [5] [1, 2] (fun _ => [(fr0 1).x = (fr0 1).x, (fr0 0).x = (fr0 0).x, CallOK Try.prog 24 #[.agg #[.int .i64 y.te, .int .i64 y.tn], .agg #[.int .i64 x.te, .int .i64 x.tn]] (.int .i64 (verF y.te y.tn x.te x.tn)) []]) (fun _ => by kernel_rfl) (fun _ => ⟨rfl, rfl, refcmp_ok y.te y.tn x.te x.tn, trivial⟩)) ?_
      intro _
      refine GS.seq ?_
      -- region 8, ref.go:32
      refine GS.region (env' := fun _ => [(4, .int .i64 (verF y.te y.tn x.te x.tn))]) (mem' := fun _ => [(1, .cells ((fr0 0).x) 34 [.int .i64 x.les, .int .i64 x.he, .int .i64 x.hn, .int .i64 x.te, .int .i64 x.tn, .int .i64 x.born]), (2, .cells ((fr0 1).x) 34 [.int .i64 y.les, .int .i64 y.he, .int .i64 y.hn, .int .i64 y.te, .int .i64 y.tn, .int .i64 y.born])]) (RunsTo.mk [] [4] [1, 2] (fun _ => []) (fun _ => by kernel_rfl) (fun _ => trivial)) ?_
      intro _
      refine GS.ret (fn := Try.f15) [0] [.int .i64 (verF y.te y.tn x.te x.tn)] [] rfl Try.func15 (by kernel_rfl) trivial (fun w' hs => ?_)
      exact ⟨by unfold infF; (repeat' split) <;> first | rfl | (exfalso; omega), hs.keep⟩
    · replace h1 := ne_of_beq_false' h1
      refine GS.skip ?_
      refine GS.seq ?_
      -- region 8, ref.go:32
      refine GS.region (env' := fun _ => [(4, .int .i64 (verF x.he x.hn y.he y.hn))]) (mem' := fun _ => [(1, .cells ((fr0 0).x) 34 [.int .i64 x.les, .int .i64 x.he, .int .i64 x.hn, .int .i64 x.te, .int .i64 x.tn, .int .i64 x.born]), (2, .cells ((fr0 1).x) 34 [.int .i64 y.les, .int .i64 y.he, .int .i64 y.hn, .int .i64 y.te, .int .i64 y.tn, .int .i64 y.born])]) (RunsTo.mk [] [4] [1, 2] (fun _ => []) (fun _ => by kernel_rfl) (fun _ => trivial)) ?_
      intro _
      refine GS.ret (fn := Try.f15) [0] [.int .i64 (verF x.he x.hn y.he y.hn)] [] rfl Try.func15 (by kernel_rfl) trivial (fun w' hs => ?_)
      exact ⟨by unfold infF; (repeat' split) <;> first | rfl | (exfalso; omega), hs.keep⟩

theorem les_ok (oi : Option Addr) (ci : Nat) (infos : List Inf) (hl : infos.length ≤ 9223372036854775807) : CallOK Try.prog 16 #[.slice oi infos.length ci] (.int .i64 (lesTo infos infos.length)) [some (.rd oi 6 (encInf infos))] := by
  intro w hr
  refine GS.start (S := fun _ => False) (mem := [(1, .rd oi 6 (encInf infos))]) Try.func16 rfl Try.ntmps16 (Nat.le_of_ble_eq_true rfl) (Sat.startRo (es := [.rd oi 6 (encInf infos)]) hr rfl) ?_
  refine GS.conv (env' := [(0, .slice oi infos.length ci)]) rfl rfl ?_
  refine GS.seq ?_
  -- region 0, authority.go:12
  refine GS.region (env' := fun _ => [(0, .slice oi infos.length ci)]) (mem' := fun _ => [(1, .rd oi 6 (encInf infos))]) (RunsTo.mk [] [0] [1] (fun _ => []) (fun _ => by kernel_rfl) (fun _ => trivial)) ?_
  intro _
  refine GS.seq ?_
  -- region 1, authority.go:13
  refine GS.region (env' := fun _ => [(0, .slice oi infos.length ci), (3, .int .i64 (lesTo infos 0))]) (mem' := fun _ => [(1, .rd oi 6 (encInf infos))]) (RunsTo.mk [(0, { sp := some (.int .i64 (lesTo infos 0)) })] [0, 3] [1] (fun _ => [(.int .i64 0 : Value) = .int .i64 (lesTo infos 0)]) (fun _ => by kernel_rfl) (fun _ => ⟨rfl, trivial⟩)) ?_
  intro _
  refine GS.seq ?_
  refine GS.seq ?_
  -- region 2, authority.go:14
  refine GS.region (env' := fun _ => [(3, .int .i64 (lesTo infos 0)), (6, .slice oi infos.length ci), (7, .int .i64 ((infos.length : Nat) : Int)), (8, .int .i64 ((0 : Nat) : Int))]) (mem' := fun _ => [(1, .rd oi 6 (encInf infos))]) (RunsTo.mk [(2, { sp := some (.int .i64 ((0 : Nat) : Int)) })] [3, 6, 7, 8] [1] (fun _ => [(.int .i64 0 : Value) = .int .i64 ((0 : Nat) : Int)]) (fun _ => by kernel_rfl) (fun _ => ⟨rfl, trivial⟩)) ?_
  intro _
  refine GS.block ?_
  refine GS.loop ?_
  refine GS.loopInv (ι := Nat) (I := fun (i : Nat) => i ≤ infos.length) (μ := fun (i : Nat) => infos.length - (i)) (E := fun (i : Nat) => [(3, .int .i64 (lesTo infos i)), (6, .slice oi infos.length ci), (7, .int .i64 ((infos.length : Nat) : Int)), (8, .int .i64 ((i : Nat) : Int))]) (M := fun (i : Nat) => [(1, .rd oi 6 (encInf infos))]) ?_ 0 (Nat.zero_le _)
  rintro i hi ih
  refine GS.seq ?_
  -- region 3, authority.go:14
  refine GS.region (env' := fun _ => [(3, .int .i64 (lesTo infos i)), (6, .slice oi infos.length ci), (7, .int .i64 ((infos.length : Nat) : Int)), (8, .int .i64 ((i : Nat) : Int)), (9, .bool (decide (((i : Nat) : Int) < ((infos.length : Nat) : Int))))]) (mem' := fun _ => [(1, .rd oi 6 (encInf infos))]) (RunsTo.mk [] [3, 6, 7, 8, 9] [1] (fun _ => []) (fun _ => by kernel_rfl) (fun _ => trivial)) ?_
  intro _
  refine GS.seq ?_
  refine GS.cond (t := decide (((i : Nat) : Int) < ((infos.length : Nat) : Int))) rfl rfl (fun h1 => ?_) (fun h1 => ?_)
  · replace h1 := of_decide_eq_true h1
    refine GS.skip ?_
    refine GS.seq ?_
    refine GS.block ?_
    refine GS.seq ?_
    -- region 4, authority.go:14
    refine GS.region (env' := fun fr0 => [(3, .int .i64 (lesTo infos i)), (4, .int .i64 ((i : Nat) : Int)), (5, .pointer (some ⟨(fr0 3).x, 0, none⟩)), (6, .slice oi infos.length ci), (7, .int .i64 ((infos.length : Nat) : Int)), (8, .int .i64 ((i : Nat) : Int))]) (mem' := fun fr0 => [(1, .rd oi 6 (encInf infos)), (2, .cells ((fr0 3).x) 34 [.int .i64 ((infos.getD i dI).les), .int .i64 ((infos.getD i dI).he), .int .i64 ((infos.getD i dI).hn), .int .i64 ((infos.getD i dI).te), .int .i64 ((infos.getD i dI).tn), .int .i64 ((infos.getD i dI).born)])]) (RunsTo.mk [(1, { act := .idx 1 i }), (2, { act := .load 1 i 0 [.int .i64 ((infos.getD i dI).les), .int .i64 ((infos.getD i dI).he), .int .i64 ((infos.getD i dI).hn), .int .i64 ((infos.getD i dI).te), .int .i64 ((infos.getD i dI).tn), .int .i64 ((infos.getD i dI).born)] }), (3, { act := .new .var, key := some 2 }), (5, { act := .store 0 0 [], key := some 2 })] [3, 4, 5, 6, 7, 8] [1, 2] (fun fr0 => [oi = oi, infos.length = (encInf infos).length, (((i : Nat) : Int) : Int) = ((i : Nat) : Int), i < infos.length, blk oi = blk oi, offs oi + i * 6 = offs oi + (i * 6 + 0), (encInf infos)[i]? = some [.int .i64 ((infos.getD i dI).les), .int .i64 ((infos.getD i dI).he), .int .i64 ((infos.getD i dI).hn), .int .i64 ((infos.getD i dI).te), .int .i64 ((infos.getD i dI).tn), .int .i64 ((infos.getD i dI).born)], (fr0 3).x = (fr0 3).x, ((.agg #[.int .i64 ((infos.getD i dI).les), .int .i64 ((infos.getD i dI).he), .int .i64 ((infos.getD i dI).hn), .int .i64 ((infos.getD i dI).te), .int .i64 ((infos.getD i dI).tn), .int .i64 ((infos.getD i dI).born)]) : Value).cells.toList.all Value.oneCell' = true]) (fun fr0 => by kernel_rfl) (fun fr0 => ⟨rfl, encInf_len _, rfl, by omega, rfl, rfl, encInf_at (by omega), rfl, rfl, trivial⟩)) ?_
    intro fr0
    refine GS.seq ?_
    -- region 5, authority.go:15
    refine GS.region (env' := fun _ => [(3, .int .i64 (lesTo infos i)), (5, .pointer (some ⟨(fr0 3).x, 0, none⟩)), (6, .slice oi infos.length ci), (7, .int .i64 ((infos.length : Nat) : Int)), (8, .int .i64 ((i : Nat) : Int)), (20, .bool ((((i : Nat) : Int) == 0) || (decide (((infos.getD i dI).les) > (lesTo infos i)))))]) (mem' := fun _ => [(1, .rd oi 6 (encInf infos)), (2, .cells ((fr0 3).x) 34 [.int .i64 ((infos.getD i dI).les), .int .i64 ((infos.getD i dI).he), .int .i64 ((infos.getD i dI).hn), .int .i64 ((infos.getD i dI).te), .int .i64 ((infos.getD i dI).tn), .int .i64 ((infos.getD i dI).born)])]) ?_ ?_
    · rcases Bool.eq_false_or_eq_true (((i : Nat) : Int) == 0) with hg0 | hg0
      · have hg0' := hg0
        exact RunsTo.mk [(2, { sp := some (.bool true) }), (7, { sp := some (.bool ((((i : Nat) : Int) == 0) || (decide (((infos.getD i dI).les) > (lesTo infos i))))) })] [3, 5, 6, 7, 8, 20] [1, 2] (fun _ => [((.bool (((i : Nat) : Int) == 0)) : Value) = .bool true, ((.bool true) : Value) = .bool ((((i : Nat) : Int) == 0) || (decide (((infos.getD i dI).les) > (lesTo infos i))))]) (fun _ => by kernel_rfl) (fun _ => ⟨bool_eq (by assumption), bool_eq (by first | (simp only [hg0, Bool.true_and, Bool.false_and, Bool.and_true, Bool.and_false, Bool.true_or, Bool.false_or, Bool.or_true, Bool.or_false, Bool.not_true, Bool.not_false]) | simp [hg0]), trivial⟩)
      · have hg0' := hg0
        exact RunsTo.mk [(2, { sp := some (.bool false) }), (4, { act := .load 2 0 0 [] }), (7, { sp := some (.bool ((((i : Nat) : Int) == 0) || (decide (((infos.getD i dI).les) > (lesTo infos i))))) })] [3, 5, 6, 7, 8, 20] [1, 2] (fun _ => [((.bool (((i : Nat) : Int) == 0)) : Value) = .bool false, (fr0 3).x = (fr0 3).x, ((.bool (decide (((infos.getD i dI).les) > (lesTo infos i)))) : Value) = .bool ((((i : Nat) : Int) == 0) || (decide (((infos.getD i dI).les) > (lesTo infos i))))]) (fun _ => by kernel_rfl) (fun _ => ⟨bool_eq (by assumption), rfl, bool_eq (by first | (simp only [hg0, Bool.true_and, Bool.false_and, Bool.and_true, Bool.and_false, Bool.true_or, Bool.false_or, Bool.or_true, Bool.or_false, Bool.not_true, Bool.not_false]) | simp [hg0]), trivial⟩)
    intro _
    refine GS.cond (t := (((i : Nat) : Int) == 0) || (decide (((infos.getD i dI).les) > (lesTo infos i)))) rfl rfl (fun h2 => ?_) (fun h2 => ?_)
    · skip
      have hs2 : lesTo infos (i + 1) = (infos.getD i dI).les := by rw [lesTo, if_pos (by simpa using h2)]
      -- region 6, authority.go:16
      refine GS.region (env' := fun _ => [(3, .int .i64 (lesTo infos (i + 1))), (6, .slice oi infos.length ci), (7, .int .i64 ((infos.length : Nat) : Int)), (8, .int .i64 ((i : Nat) : Int))]) (mem' := fun _ => [(1, .rd oi 6 (encInf infos)), (2, .cells ((fr0 3).x) 34 [.int .i64 ((infos.getD i dI).les), .int .i64 ((infos.getD i dI).he), .int .i64 ((infos.getD i dI).hn), .int .i64 ((infos.getD i dI).te), .int .i64 ((infos.getD i dI).tn), .int .i64 ((infos.getD i dI).born)])]) (RunsTo.mk [(1, { act := .load 2 0 0 [] }), (2, { sp := some (.int .i64 (lesTo infos (i + 1))) })] [3, 6, 7, 8] [1, 2] (fun _ => [(fr0 3).x = (fr0 3).x, (.int .i64 ((infos.getD i dI).les) : Value) = .int .i64 (lesTo infos (i + 1))]) (fun _ => by kernel_rfl) (fun _ => ⟨rfl, int_eq hs2.symm, trivial⟩)) ?_
      intro _
      refine GS.inBlock ?_
      -- region 7, authority.go:14
      refine GS.region (env' := fun _ => [(3, .int .i64 (lesTo infos (i + 1))), (6, .slice oi infos.length ci), (7, .int .i64 ((infos.length : Nat) : Int)), (8, .int .i64 ((i + 1 : Nat) : Int))]) (mem' := fun _ => [(1, .rd oi 6 (encInf infos)), (2, .cells ((fr0 3).x) 34 [.int .i64 ((infos.getD i dI).les), .int .i64 ((infos.getD i dI).he), .int .i64 ((infos.getD i dI).hn), .int .i64 ((infos.getD i dI).te), .int .i64 ((infos.getD i dI).tn), .int .i64 ((infos.getD i dI).born)])]) (RunsTo.mk [(0, { sp := some (.int .i64 ((i + 1 : Nat) : Int)) })] [3, 6, 7, 8] [1, 2] (fun _ => [(.int .i64 (IntKind.i64.wrap (((i : Nat) : Int) + 1)) : Value) = .int .i64 ((i + 1 : Nat) : Int)]) (fun _ => by kernel_rfl) (fun _ => ⟨w64 (by omega) (by omega) (by omega), trivial⟩)) ?_
      intro _
      refine GS.inLoop ?_
      refine GS.trim (env' := [(3, .int .i64 (lesTo infos (i + 1))), (6, .slice oi infos.length ci), (7, .int .i64 ((infos.length : Nat) : Int)), (8, .int .i64 ((i + 1 : Nat) : Int))]) (mem' := [(1, .rd oi 6 (encInf infos))]) [3, 6, 7, 8] [1] (by kernel_rfl) (by kernel_rfl) ?_
      exact ih (i + 1) (by omega) (show infos.length - (i + 1) < infos.length - (i) from by omega)
    · skip
      have hs2 : lesTo infos (i + 1) = lesTo infos i := by rw [lesTo, if_neg (by simpa using h2)]
      refine GS.conv (env' := [(3, .int .i64 (lesTo infos (i + 1))), (5, .pointer (some ⟨(fr0 3).x, 0, none⟩)), (6, .slice oi infos.length ci), (7, .int .i64 ((infos.length : Nat) : Int)), (8, .int .i64 ((i : Nat) : Int)), (20, .bool ((((i : Nat) : Int) == 0) || (decide (((infos.getD i dI).les) > (lesTo infos i)))))]) (congrArg (fun vhole : Value => [(3, vhole), (5, .pointer (some ⟨(fr0 3).x, 0, none⟩)), (6, .slice oi infos.length ci), (7, .int .i64 ((infos.length : Nat) : Int)), (8, .int .i64 ((i : Nat) : Int)), (20, .bool ((((i : Nat) : Int) == 0) || (decide (((infos.getD i dI).les) > (lesTo infos i)))))]) (show ((.int .i64 (lesTo infos i) : Value) = .int .i64 (lesTo infos (i + 1))) from int_eq hs2.symm)) rfl ?_
      refine GS.skip ?_
      refine GS.inBlock ?_
      -- region 7, authority.go:14
      refine GS.region (env' := fun _ => [(3, .int .i64 (lesTo infos (i + 1))), (6, .slice oi infos.length ci), (7, .int .i64 ((infos.length : Nat) : Int)), (8, .int .i64 ((i + 1 : Nat) : Int))]) (mem' := fun _ => [(1, .rd oi 6 (encInf infos)), (2, .cells ((fr0 3).x) 34 [.int .i64 ((infos.getD i dI).les), .int .i64 ((infos.getD i dI).he), .int .i64 ((infos.getD i dI).hn), .int .i64 ((infos.getD i dI).te), .int .i64 ((infos.getD i dI).tn), .int .i64 ((infos.getD i dI).born)])]) (RunsTo.mk [(0, { sp := some (.int .i64 ((i + 1 : Nat) : Int)) })] [3, 6, 7, 8] [1, 2] (fun _ => [(.int .i64 (IntKind.i64.wrap (((i : Nat) : Int) + 1)) : Value) = .int .i64 ((i + 1 : Nat) : Int)]) (fun _ => by kernel_rfl) (fun _ => ⟨w64 (by omega) (by omega) (by omega), trivial⟩)) ?_
      intro _
      refine GS.inLoop ?_
      refine GS.trim (env' := [(3, .int .i64 (lesTo infos (i + 1))), (6, .slice oi infos.length ci), (7, .int .i64 ((infos.length : Nat) : Int)), (8, .int .i64 ((i + 1 : Nat) : Int))]) (mem' := [(1, .rd oi 6 (encInf infos))]) [3, 6, 7, 8] [1] (by kernel_rfl) (by kernel_rfl) ?_
      exact ih (i + 1) (by omega) (show infos.length - (i + 1) < infos.length - (i) from by omega)
  · replace h1 := of_decide_eq_false h1
    have hi2 : i = infos.length := by omega
    refine GS.exit rfl ?_
    refine GS.seq ?_
    -- region 8, authority.go:19
    refine GS.region (env' := fun _ => [(2, .int .i64 (lesTo infos i))]) (mem' := fun _ => [(1, .rd oi 6 (encInf infos))]) (RunsTo.mk [] [2] [1] (fun _ => []) (fun _ => by kernel_rfl) (fun _ => trivial)) ?_
    intro _
    refine GS.ret (fn := Try.f16) [0] [.int .i64 (lesTo infos i)] [] rfl Try.func16 (by kernel_rfl) trivial (fun w' hs => ?_)
    exact ⟨by rw [hi2] <;> rfl, hs.keep⟩

theorem lesref_ok (oi : Option Addr) (ci : Nat) (infos : List Inf) (hl : infos.length ≤ 9223372036854775807) : CallOK Try.prog 19 #[.slice oi infos.length ci] (.int .i64 (lesTo infos infos.length)) [some (.rd oi 6 (encInf infos))] := by
  intro w hr
  refine GS.start (S := fun _ => False) (mem := [(1, .rd oi 6 (encInf infos))]) Try.func19 rfl Try.ntmps19 (Nat.le_of_ble_eq_true rfl) (Sat.startRo (es := [.rd oi 6 (encInf infos)]) hr rfl) ?_
  refine GS.conv (env' := [(0, .slice oi infos.length ci)]) rfl rfl ?_
  refine GS.seq ?_
  -- region 0, ref.go:10
  refine GS.region (env' := fun _ => [(0, .slice oi infos.length ci)]) (mem' := fun _ => [(1, .rd oi 6 (encInf infos))]) (RunsTo.mk [] [0] [1] (fun _ => []) (fun _ => by kernel_rfl) (fun _ => trivial)) ?_
  intro _
  refine GS.seq ?_
  -- region 1, ref.go:11
  refine GS.region (env' := fun _ => [(0, .slice oi infos.length ci), (3, .int .i64 (lesTo infos 0))]) (mem' := fun _ => [(1, .rd oi 6 (encInf infos))]) (RunsTo.mk [(0, { sp := some (.int .i64 (lesTo infos 0)) })] [0, 3] [1] (fun _ => [(.int .i64 0 : Value) = .int .i64 (lesTo infos 0)]) (fun _ => by kernel_rfl) (fun _ => ⟨rfl, trivial⟩)) ?_
  intro _
  refine GS.seq ?_
  refine GS.seq ?_
  -- region 2, ref.go:12
  refine GS.region (env' := fun _ => [(3, .int .i64 (lesTo infos 0)), (6, .slice oi infos.length ci), (7, .int .i64 ((infos.length : Nat) : Int)), (8, .int .i64 ((0 : Nat) : Int))]) (mem' := fun _ => [(1, .rd oi 6 (encInf infos))]) (RunsTo.mk [(2, { sp := some (.int .i64 ((0 : Nat) : Int)) })] [3, 6, 7, 8] [1] (fun _ => [(.int .i64 0 : Value) = .int .i64 ((0 : Nat) : Int)]) (fun _ => by kernel_rfl) (fun _ => ⟨rfl, trivial⟩)) ?_
  intro _
  refine GS.block ?_
  refine GS.loop ?_
  refine GS.loopInv (ι := Nat) (I := fun (i : Nat) => i ≤ infos.length) (μ := fun (i : Nat) => infos.length - (i)) (E := fun (i : Nat) => [(3, .int .i64 (lesTo infos i)), (6, .slice oi infos.length ci), (7, .int .i64 ((infos.length : Nat) : Int)), (8, .int .i64 ((i : Nat) : Int))]) (M := fun (i : Nat) => [(1, .rd oi 6 (encInf infos))]) ?_ 0 (Nat.zero_le _)
  rintro i hi ih
  refine GS.seq ?_
  -- region 3, ref.go:12
  refine GS.region (env' := fun _ => [(3, .int .i64 (lesTo infos i)), (6, .slice oi infos.length ci), (7, .int .i64 ((infos.length : Nat) : Int)), (8, .int .i64 ((i : Nat) : Int)), (9, .bool (decide (((i : Nat) : Int) < ((infos.length : Nat) : Int))))]) (mem' := fun _ => [(1, .rd oi 6 (encInf infos))]) (RunsTo.mk [] [3, 6, 7, 8, 9] [1] (fun _ => []) (fun _ => by kernel_rfl) (fun _ => trivial)) ?_
  intro _
  refine GS.seq ?_
  refine GS.cond (t := decide (((i : Nat) : Int) < ((infos.length : Nat) : Int))) rfl rfl (fun h1 => ?_) (fun h1 => ?_)
  · replace h1 := of_decide_eq_true h1
    refine GS.skip ?_
    refine GS.seq ?_
    refine GS.block ?_
    refine GS.seq ?_
    -- region 4, ref.go:12
    refine GS.region (env' := fun fr0 => [(3, .int .i64 (lesTo infos i)), (4, .int .i64 ((i : Nat) : Int)), (5, .pointer (some ⟨(fr0 3).x, 0, none⟩)), (6, .slice oi infos.length ci), (7, .int .i64 ((infos.length : Nat) : Int)), (8, .int .i64 ((i : Nat) : Int))]) (mem' := fun fr0 => [(1, .rd oi 6 (encInf infos)), (2, .cells ((fr0 3).x) 34 [.int .i64 ((infos.getD i dI).les), .int .i64 ((infos.getD i dI).he), .int .i64 ((infos.getD i dI).hn), .int .i64 ((infos.getD i dI).te), .int .i64 ((infos.getD i dI).tn), .int .i64 ((infos.getD i dI).born)])]) (RunsTo.mk [(1, { act := .idx 1 i }), (2, { act := .load 1 i 0 [.int .i64 ((infos.getD i dI).les), .int .i64 ((infos.getD i dI).he), .int .i64 ((infos.getD i dI).hn), .int .i64 ((infos.getD i dI).te), .int .i64 ((infos.getD i dI).tn), .int .i64 ((infos.getD i dI).born)] }), (3, { act := .new .var, key := some 2 }), (5, { act := .store 0 0 [], key := some 2 })] [3, 4, 5, 6, 7, 8] [1, 2] (fun fr0 => [oi = oi, infos.length = (encInf infos).length, (((i : Nat) : Int) : Int) = ((i : Nat) : Int), i < infos.length, blk oi = blk oi, offs oi + i * 6 = offs oi + (i * 6 + 0), (encInf infos)[i]? = some [.int .i64 ((infos.getD i dI).les), .int .i64 ((infos.getD i dI).he), .int .i64 ((infos.getD i dI).hn), .int .i64 ((infos.getD i dI).te), .int .i64 ((infos.getD i dI).tn), .int .i64 ((infos.getD i dI).born)], (fr0 3).x = (fr0 3).x, ((.agg #[.int .i64 ((infos.getD i dI).les), .int .i64 ((infos.getD i dI).he), .int .i64 ((infos.getD i dI).hn), .int .i64 ((infos.getD i dI).te), .int .i64 ((infos.getD i dI).tn), .int .i64 ((infos.getD i dI).born)]) : Value).cells.toList.all Value.oneCell' = true]) (fun fr0 => by kernel_rfl) (fun fr0 => ⟨rfl, encInf_len _, rfl, by omega, rfl, rfl, encInf_at (by omega), rfl, rfl, trivial⟩)) ?_
    intro fr0
    refine GS.seq ?_
    -- region 5, ref.go:13
    refine GS.region (env' := fun _ => [(3, .int .i64 (lesTo infos i)), (5, .pointer (some ⟨(fr0 3).x, 0, none⟩)), (6, .slice oi infos.length ci), (7, .int .i64 ((infos.length : Nat) : Int)), (8, .int .i64 ((i : Nat) : Int)), (20, .bool ((((i : Nat) : Int) == 0) || (decide (((infos.getD i dI).les) > (lesTo infos i)))))]) (mem' := fun _ => [(1, .rd oi 6 (encInf infos)), (2, .cells ((fr0 3).x) 34 [.int .i64 ((infos.getD i dI).les), .int .i64 ((infos.getD i dI).he), .int .i64 ((infos.getD i dI).hn), .int .i64 ((infos.getD i dI).te), .int .i64 ((infos.getD i dI).tn), .int .i64 ((infos.getD i dI).born)])]) ?_ ?_
    · rcases Bool.eq_false_or_eq_true (((i : Nat) : Int) == 0) with hg0 | hg0
      · have hg0' := hg0
        exact RunsTo.mk [(2, { sp := some (.bool true) }), (7, { sp := some (.bool ((((i : Nat) : Int) == 0) || (decide (((infos.getD i dI).les) > (lesTo infos i))))) })] [3, 5, 6, 7, 8, 20] [1, 2] (fun _ => [((.bool (((i : Nat) : Int) == 0)) : Value) = .bool true, ((.bool true) : Value) = .bool ((((i : Nat) : Int) == 0) || (decide (((infos.getD i dI).les) > (lesTo infos i))))]) (fun _ => by kernel_rfl) (fun _ => ⟨bool_eq (by assumption), bool_eq (by first | (simp only [hg0, Bool.true_and, Bool.false_and, Bool.and_true, Bool.and_false, Bool.true_or, Bool.false_or, Bool.or_true, Bool.or_false, Bool.not_true, Bool.not_false]) | simp [hg0]), trivial⟩)
      · have hg0' := hg0
        exact RunsTo.mk [(2, { sp := some (.bool false) }), (4, { act := .load 2 0 0 [] }), (7, { sp := some (.bool ((((i : Nat) : Int) == 0) || (decide (((infos.getD i dI).les) > (lesTo infos i))))) })] [3, 5, 6, 7, 8, 20] [1, 2] (fun _ => [((.bool (((i : Nat) : Int) == 0)) : Value) = .bool false, (fr0 3).x = (fr0 3).x, ((.bool (decide (((infos.getD i dI).les) > (lesTo infos i)))) : Value) = .bool ((((i : Nat) : Int) == 0) || (decide (((infos.getD i dI).les) > (lesTo infos i))))]) (fun _ => by kernel_rfl) (fun _ => ⟨bool_eq (by assumption), rfl, bool_eq (by first | (simp only [hg0, Bool.true_and, Bool.false_and, Bool.and_true, Bool.and_false, Bool.true_or, Bool.false_or, Bool.or_true, Bool.or_false, Bool.not_true, Bool.not_false]) | simp [hg0]), trivial⟩)
    intro _
    refine GS.cond (t := (((i : Nat) : Int) == 0) || (decide (((infos.getD i dI).les) > (lesTo infos i)))) rfl rfl (fun h2 => ?_) (fun h2 => ?_)
    · skip
      have hs2 : lesTo infos (i + 1) = (infos.getD i dI).les := by rw [lesTo, if_pos (by simpa using h2)]
      -- region 6, ref.go:14
      refine GS.region (env' := fun _ => [(3, .int .i64 (lesTo infos (i + 1))), (6, .slice oi infos.length ci), (7, .int .i64 ((infos.length : Nat) : Int)), (8, .int .i64 ((i : Nat) : Int))]) (mem' := fun _ => [(1, .rd oi 6 (encInf infos)), (2, .cells ((fr0 3).x) 34 [.int .i64 ((infos.getD i dI).les), .int .i64 ((infos.getD i dI).he), .int .i64 ((infos.getD i dI).hn), .int .i64 ((infos.getD i dI).te), .int .i64 ((infos.getD i dI).tn), .int .i64 ((infos.getD i dI).born)])]) (RunsTo.mk [(1, { act := .load 2 0 0 [] }), (2, { sp := some (.int .i64 (lesTo infos (i + 1))) })] [3, 6, 7, 8] [1, 2] (fun _ => [(fr0 3).x = (fr0 3).x, (.int .i64 ((infos.getD i dI).les) : Value) = .int .i64 (lesTo infos (i + 1))]) (fun _ => by kernel_rfl) (fun _ => ⟨rfl, int_eq hs2.symm, trivial⟩)) ?_
      intro _
      refine GS.inBlock ?_
      -- region 7, ref.go:12
      refine GS.region (env' := fun _ => [(3, .int .i64 (lesTo infos (i + 1))), (6, .slice oi infos.length ci), (7, .int .i64 ((infos.length : Nat) : Int)), (8, .int .i64 ((i + 1 : Nat) : Int))]) (mem' := fun _ => [(1, .rd oi 6 (encInf infos)), (2, .cells ((fr0 3).x) 34 [.int .i64 ((infos.getD i dI).les), .int .i64 ((infos.getD i dI).he), .int .i64 ((infos.getD i dI).hn), .int .i64 ((infos.getD i dI).te), .int .i64 ((infos.getD i dI).tn), .int .i64 ((infos.getD i dI).born)])]) (RunsTo.mk [(0, { sp := some (.int .i64 ((i + 1 : Nat) : Int)) })] [3, 6, 7, 8] [1, 2] (fun _ => [(.int .i64 (IntKind.i64.wrap (((i : Nat) : Int) + 1)) : Value) = .int .i64 ((i + 1 : Nat) : Int)]) (fun _ => by kernel_rfl) (fun _ => ⟨w64 (by omega) (by omega) (by omega), trivial⟩)) ?_
      intro _
      refine GS.inLoop ?_
      refine GS.trim (env' := [(3, .int .i64 (lesTo infos (i + 1))), (6, .slice oi infos.length ci), (7, .int .i64 ((infos.length : Nat) : Int)), (8, .int .i64 ((i + 1 : Nat) : Int))]) (mem' := [(1, .rd oi 6 (encInf infos))]) [3, 6, 7, 8] [1] (by kernel_rfl) (by kernel_rfl) ?_
      exact ih (i + 1) (by omega) (show infos.length - (i + 1) < infos.length - (i) from by omega)
    · skip
      have hs2 : lesTo infos (i + 1) = lesTo infos i := by rw [lesTo, if_neg (by simpa using h2)]
      refine GS.conv (env' := [(3, .int .i64 (lesTo infos (i + 1))), (5, .pointer (some ⟨(fr0 3).x, 0, none⟩)), (6, .slice oi infos.length ci), (7, .int .i64 ((infos.length : Nat) : Int)), (8, .int .i64 ((i : Nat) : Int)), (20, .bool ((((i : Nat) : Int) == 0) || (decide (((infos.getD i dI).les) > (lesTo infos i)))))]) (congrArg (fun vhole : Value => [(3, vhole), (5, .pointer (some ⟨(fr0 3).x, 0, none⟩)), (6, .slice oi infos.length ci), (7, .int .i64 ((infos.length : Nat) : Int)), (8, .int .i64 ((i : Nat) : Int)), (20, .bool ((((i : Nat) : Int) == 0) || (decide (((infos.getD i dI).les) > (lesTo infos i)))))]) (show ((.int .i64 (lesTo infos i) : Value) = .int .i64 (lesTo infos (i + 1))) from int_eq hs2.symm)) rfl ?_
      refine GS.skip ?_
      refine GS.inBlock ?_
      -- region 7, ref.go:12
      refine GS.region (env' := fun _ => [(3, .int .i64 (lesTo infos (i + 1))), (6, .slice oi infos.length ci), (7, .int .i64 ((infos.length : Nat) : Int)), (8, .int .i64 ((i + 1 : Nat) : Int))]) (mem' := fun _ => [(1, .rd oi 6 (encInf infos)), (2, .cells ((fr0 3).x) 34 [.int .i64 ((infos.getD i dI).les), .int .i64 ((infos.getD i dI).he), .int .i64 ((infos.getD i dI).hn), .int .i64 ((infos.getD i dI).te), .int .i64 ((infos.getD i dI).tn), .int .i64 ((infos.getD i dI).born)])]) (RunsTo.mk [(0, { sp := some (.int .i64 ((i + 1 : Nat) : Int)) })] [3, 6, 7, 8] [1, 2] (fun _ => [(.int .i64 (IntKind.i64.wrap (((i : Nat) : Int) + 1)) : Value) = .int .i64 ((i + 1 : Nat) : Int)]) (fun _ => by kernel_rfl) (fun _ => ⟨w64 (by omega) (by omega) (by omega), trivial⟩)) ?_
      intro _
      refine GS.inLoop ?_
      refine GS.trim (env' := [(3, .int .i64 (lesTo infos (i + 1))), (6, .slice oi infos.length ci), (7, .int .i64 ((infos.length : Nat) : Int)), (8, .int .i64 ((i + 1 : Nat) : Int))]) (mem' := [(1, .rd oi 6 (encInf infos))]) [3, 6, 7, 8] [1] (by kernel_rfl) (by kernel_rfl) ?_
      exact ih (i + 1) (by omega) (show infos.length - (i + 1) < infos.length - (i) from by omega)
  · replace h1 := of_decide_eq_false h1
    have hi2 : i = infos.length := by omega
    refine GS.exit rfl ?_
    refine GS.seq ?_
    -- region 8, ref.go:17
    refine GS.region (env' := fun _ => [(2, .int .i64 (lesTo infos i))]) (mem' := fun _ => [(1, .rd oi 6 (encInf infos))]) (RunsTo.mk [] [2] [1] (fun _ => []) (fun _ => by kernel_rfl) (fun _ => trivial)) ?_
    intro _
    refine GS.ret (fn := Try.f19) [0] [.int .i64 (lesTo infos i)] [] rfl Try.func19 (by kernel_rfl) trivial (fun w' hs => ?_)
    exact ⟨by rw [hi2] <;> rfl, hs.keep⟩

end Go.Proofs.Ythaokdobgmbeeaa
