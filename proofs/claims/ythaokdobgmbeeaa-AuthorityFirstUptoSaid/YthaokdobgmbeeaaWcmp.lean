/-
  The walks of comparisons.
-/
import Derived.Test.YthaokdobgmbeeaaProg
import Derived.Test.YthaokdobgmbeeaaPcmp
set_option linter.unusedVariables false
set_option linter.unusedSimpArgs false
set_option maxRecDepth 100000
namespace Go.Proofs.Ythaokdobgmbeeaa
open Go Go.RowKit Sx

theorem isnan_ok (x : Int) : CallOK Try.prog 29 #[.int .i64 x] (.bool false) [] := by
  intro w _
  refine GS.start (S := fun _ => False) (mem := []) Try.func29 rfl Try.ntmps29 (Nat.le_of_ble_eq_true rfl) Sat.start ?_
  refine GS.conv (env' := [(0, .int .i64 x)]) rfl rfl ?_
  refine GS.seq ?_
  -- region 0, cmp.go:63
  refine GS.region (env' := fun _ => [(0, .int .i64 x)]) (mem' := fun _ => []) (RunsTo.mk [] [0] [] (fun _ => []) (fun _ => by kernel_rfl) (fun _ => trivial)) ?_
  intro _
  refine GS.seq ?_
  -- region 1, cmp.go:64
  refine GS.region (env' := fun _ => [(2, .bool false)]) (mem' := fun _ => []) (RunsTo.mk [(2, { sp := some (.bool false) })] [2] [] (fun _ => [(.bool (x != x) : Value) = .bool false]) (fun _ => by kernel_rfl) (fun _ => ⟨bool_eq (by simp), trivial⟩)) ?_
  intro _
  refine GS.ret (fn := Try.f29) [0] [.bool false] [] rfl Try.func29 (by kernel_rfl) trivial (fun w' hs => ?_)
  exact ⟨rfl, hs.keep⟩

theorem cmpint_ok (x y : Int) : CallOK Try.prog 26 #[.int .i64 x, .int .i64 y] (.int .i64 (cmpI x y)) [] := by
  intro w _
  refine GS.start (S := fun _ => False) (mem := []) Try.func26 rfl Try.ntmps26 (Nat.le_of_ble_eq_true rfl) Sat.start ?_
  refine GS.conv (env' := [(0, .int .i64 x), (1, .int .i64 y)]) rfl rfl ?_
  refine GS.seq ?_
  -- region 0, cmp.go:40
  refine GS.region (env' := fun _ => [(0, .int .i64 x), (1, .int .i64 y)]) (mem' := fun _ => []) (RunsTo.mk [] [0, 1] [] (fun _ => []) (fun _ => by kernel_rfl) (fun _ => trivial)) ?_
  intro _
  refine GS.seq ?_
  -- region 1, cmp.go:41
  refine GS.region (env' := fun _ => [(0, .int .i64 x), (1, .int .i64 y), (5, .bool false)]) (mem' := fun _ => []) (RunsTo.mk [(1, { act := .call [] (.bool false) })] [0, 1, 5] [] (fun _ => [CallOK Try.prog 29 #[.int .i64 x] (.bool false) []]) (fun _ => by kernel_rfl) (fun _ => ⟨isnan_ok x, trivial⟩)) ?_
  intro _
  refine GS.seq ?_
  -- region 2, cmp.go:42
  refine GS.region (env' := fun _ => [(0, .int .i64 x), (1, .int .i64 y), (5, .bool false), (6, .bool false)]) (mem' := fun _ => []) (RunsTo.mk [(1, { act := .call [] (.bool false) })] [0, 1, 5, 6] [] (fun _ => [CallOK Try.prog 29 #[.int .i64 y] (.bool false) []]) (fun _ => by kernel_rfl) (fun _ => ⟨isnan_ok y, trivial⟩)) ?_
  intro _
  refine GS.seq ?_
  refine GS.seq ?_
  -- region 3, cmp.go:43
  refine GS.region (env' := fun _ => [(0, .int .i64 x), (1, .int .i64 y), (6, .bool false), (11, .bool false)]) (mem' := fun _ => []) (RunsTo.mk [] [0, 1, 6, 11] [] (fun _ => []) (fun _ => by kernel_rfl) (fun _ => trivial)) ?_
  intro _
  refine GS.cond (t := false) rfl rfl (fun hf => by cases hf) (fun _ => ?_)
  refine GS.skip ?_
  refine GS.seq ?_
  refine GS.seq ?_
  -- region 7, cmp.go:49
  refine GS.region (env' := fun _ => [(0, .int .i64 x), (1, .int .i64 y), (13, .bool false)]) (mem' := fun _ => []) (RunsTo.mk [] [0, 1, 13] [] (fun _ => []) (fun _ => by kernel_rfl) (fun _ => trivial)) ?_
  intro _
  refine GS.cond (t := false) rfl rfl (fun hf => by cases hf) (fun _ => ?_)
  refine GS.skip ?_
  refine GS.seq ?_
  refine GS.seq ?_
  -- region 9, cmp.go:52
  refine GS.region (env' := fun _ => [(0, .int .i64 x), (1, .int .i64 y), (16, .bool (decide (x < y)))]) (mem' := fun _ => []) (RunsTo.mk [] [0, 1, 16] [] (fun _ => []) (fun _ => by kernel_rfl) (fun _ => trivial)) ?_
  intro _
  refine GS.cond (t := decide (x < y)) rfl rfl (fun h0 => ?_) (fun h0 => ?_)
  · replace h0 := of_decide_eq_true h0
    refine GS.seq ?_
    -- region 10, cmp.go:53
    refine GS.region (env' := fun _ => [(4, .int .i64 (-1))]) (mem' := fun _ => []) (RunsTo.mk [] [4] [] (fun _ => []) (fun _ => by kernel_rfl) (fun _ => trivial)) ?_
    intro _
    refine GS.ret (fn := Try.f26) [0] [.int .i64 (-1)] [] rfl Try.func26 (by kernel_rfl) trivial (fun w' hs => ?_)
    exact ⟨by unfold cmpI; (repeat' split) <;> first | rfl | (exfalso; omega), hs.keep⟩
  · replace h0 := of_decide_eq_false h0
    refine GS.skip ?_
    refine GS.seq ?_
    refine GS.seq ?_
    -- region 11, cmp.go:55
    refine GS.region (env' := fun _ => [(19, .bool (decide (x > y)))]) (mem' := fun _ => []) (RunsTo.mk [] [19] [] (fun _ => []) (fun _ => by kernel_rfl) (fun _ => trivial)) ?_
    intro _
    refine GS.cond (t := decide (x > y)) rfl rfl (fun h1 => ?_) (fun h1 => ?_)
    · replace h1 := of_decide_eq_true h1
      refine GS.seq ?_
      -- region 12, cmp.go:56
      refine GS.region (env' := fun _ => [(4, .int .i64 1)]) (mem' := fun _ => []) (RunsTo.mk [] [4] [] (fun _ => []) (fun _ => by kernel_rfl) (fun _ => trivial)) ?_
      intro _
      refine GS.ret (fn := Try.f26) [0] [.int .i64 1] [] rfl Try.func26 (by kernel_rfl) trivial (fun w' hs => ?_)
      exact ⟨by unfold cmpI; (repeat' split) <;> first | rfl | (exfalso; omega), hs.keep⟩
    · replace h1 := of_decide_eq_false h1
      refine GS.skip ?_
      refine GS.seq ?_
      -- region 13, cmp.go:58
      refine GS.region (env' := fun _ => [(4, .int .i64 0)]) (mem' := fun _ => []) (RunsTo.mk [] [4] [] (fun _ => []) (fun _ => by kernel_rfl) (fun _ => trivial)) ?_
      intro _
      refine GS.ret (fn := Try.f26) [0] [.int .i64 0] [] rfl Try.func26 (by kernel_rfl) trivial (fun w' hs => ?_)
      exact ⟨by unfold cmpI; (repeat' split) <;> first | rfl | (exfalso; omega), hs.keep⟩

theorem pgcmp_ok (a b c d : Int) : CallOK Try.prog 23 #[.agg #[.int .i64 a, .int .i64 b], .agg #[.int .i64 c, .int .i64 d]] (.int .i64 (verF a b c d)) [] := by
  intro w _
  refine GS.start (S := fun _ => False) (mem := []) Try.func23 rfl Try.ntmps23 (Nat.le_of_ble_eq_true rfl) Sat.start ?_
  refine GS.conv (env' := [(0, .agg #[.int .i64 a, .int .i64 b]), (1, .agg #[.int .i64 c, .int .i64 d])]) rfl rfl ?_
  refine GS.seq ?_
  -- region 0, pglog.go:13
  refine GS.region (env' := fun fr0 => [(2, .pointer (some ⟨(fr0 0).x, 0, none⟩)), (3, .pointer (some ⟨(fr0 1).x, 0, none⟩))]) (mem' := fun fr0 => [(1, .cells ((fr0 0).x) 32 [.int .i64 a, .int .i64 b]), (2, .cells ((fr0 1).x) 32 [.int .i64 c, .int .i64 d])]) (RunsTo.mk [(0, { act := .new .var, key := some 1 }), (1, { act := .new .var, key := some 2 })] [2, 3] [1, 2] (fun fr0 => []) (fun fr0 => by kernel_rfl) (fun fr0 => trivial)) ?_
  intro fr0
  refine GS.seq ?_
  refine GS.seq ?_
  -- region 1, pglog.go:14
  refine GS.region (env' := fun _ => [(2, .pointer (some ⟨(fr0 0).x, 0, none⟩)), (3, .pointer (some ⟨(fr0 1).x, 0, none⟩)), (5, .int .i64 (cmpI a c))]) (mem' := fun _ => [(1, .cells ((fr0 0).x) 32 [.int .i64 a, .int .i64 b]), (2, .cells ((fr0 1).x) 32 [.int .i64 c, .int .i64 d])]) (RunsTo.mk [(1, { act := .load 1 0 0 [] }), (3, { act := .load 2 0 0 [] }), (4, { act := .call [] (.int .i64 (cmpI a c)) })] [2, 3, 5] [1, 2] (fun _ => [(fr0 0).x = (fr0 0).x, (fr0 1).x = (fr0 1).x, CallOK Try.prog 26 #[.int .i64 a, .int .i64 c] (.int .i64 (cmpI a c)) []]) (fun _ => by kernel_rfl) (fun _ => ⟨rfl, rfl, cmpint_ok a c, trivial⟩)) ?_
  intro _
  refine GS.seq ?_
  -- region 2, pglog.go:14
  refine GS.region (env' := fun _ => [(2, .pointer (some ⟨(fr0 0).x, 0, none⟩)), (3, .pointer (some ⟨(fr0 1).x, 0, none⟩)), (5, .int .i64 (cmpI a c)), (12, .bool ((cmpI a c) != 0))]) (mem' := fun _ => [(1, .cells ((fr0 0).x) 32 [.int .i64 a, .int .i64 b]), (2, .cells ((fr0 1).x) 32 [.int .i64 c, .int .i64 d])]) (RunsTo.mk [] [2, 3, 5, 12] [1, 2] (fun _ => []) (fun _ => by kernel_rfl) (fun _ => trivial)) ?_
  intro _
  refine GS.cond (t := (cmpI a c) != 0) rfl rfl (fun h => ?_) (fun h => ?_)
  · replace h := ne_of_bne h
    refine GS.seq ?_
    -- region 3, pglog.go:15
    refine GS.region (env' := fun _ => [(4, .int .i64 (cmpI a c))]) (mem' := fun _ => [(1, .cells ((fr0 0).x) 32 [.int .i64 a, .int .i64 b]), (2, .cells ((fr0 1).x) 32 [.int .i64 c, .int .i64 d])]) (RunsTo.mk [] [4] [1, 2] (fun _ => []) (fun _ => by kernel_rfl) (fun _ => trivial)) ?_
    intro _
    refine GS.ret (fn := Try.f23) [0] [.int .i64 (cmpI a c)] [] rfl Try.func23 (by kernel_rfl) trivial (fun w' hs => ?_)
    exact ⟨by unfold verF; rw [if_pos h] <;> rfl, hs.keep⟩
  · replace h := eq_of_bne_false h
    refine GS.skip ?_
    refine GS.seq ?_
    -- region 4, pglog.go:17
    refine GS.region (env' := fun _ => [(4, .int .i64 (cmpI b d))]) (mem' := fun _ => [(1, .cells ((fr0 0).x) 32 [.int .i64 a, .int .i64 b]), (2, .cells ((fr0 1).x) 32 [.int .i64 c, .int .i64 d])]) (RunsTo.mk [(1, { act := .load 1 0 0 [] }), (3, { act := .load 2 0 0 [] }), (4, { act := .call [] (.int .i64 (cmpI b d)) })] [4] [1, 2] (fun _ => [(fr0 0).x = (fr0 0).x, (fr0 1).x = (fr0 1).x, CallOK Try.prog 26 #[.int .i64 b, .int .i64 d] (.int .i64 (cmpI b d)) []]) (fun _ => by kernel_rfl) (fun _ => ⟨rfl, rfl, cmpint_ok b d, trivial⟩)) ?_
    intro _
    refine GS.ret (fn := Try.f23) [0] [.int .i64 (cmpI b d)] [] rfl Try.func23 (by kernel_rfl) trivial (fun w' hs => ?_)
    exact ⟨by unfold verF; rw [if_neg (by omega)] <;> rfl, hs.keep⟩

theorem refcmp_ok (a b c d : Int) : CallOK Try.prog 24 #[.agg #[.int .i64 a, .int .i64 b], .agg #[.int .i64 c, .int .i64 d]] (.int .i64 (verF a b c d)) [] := by
  intro w _
  refine GS.start (S := fun _ => False) (mem := []) Try.func24 rfl Try.ntmps24 (Nat.le_of_ble_eq_true rfl) Sat.start ?_
  refine GS.conv (env' := [(0, .agg #[.int .i64 a, .int .i64 b]), (1, .agg #[.int .i64 c, .int .i64 d])]) rfl rfl ?_
  refine GS.seq ?_
  -- region 0, ref.go:18
  refine GS.region (env' := fun fr0 => [(2, .pointer (some ⟨(fr0 0).x, 0, none⟩)), (3, .pointer (some ⟨(fr0 1).x, 0, none⟩))]) (mem' := fun fr0 => [(1, .cells ((fr0 0).x) 32 [.int .i64 a, .int .i64 b]), (2, .cells ((fr0 1).x) 32 [.int .i64 c, .int .i64 d])]) (RunsTo.mk [(0, { act := .new .var, key := some 1 }), (1, { act := .new .var, key := some 2 })] [2, 3] [1, 2] (fun fr0 => []) (fun fr0 => by kernel_rfl) (fun fr0 => trivial)) ?_
  intro fr0
  refine GS.seq ?_
  refine GS.block ?_
  refine GS.seq ?_
  refine GS.seq ?_
  -- region 1, ref.go:20
  refine GS.region (env' := fun _ => [(2, .pointer (some ⟨(fr0 0).x, 0, none⟩)), (3, .pointer (some ⟨(fr0 1).x, 0, none⟩)), (5, .bool (decide (a < c)))]) (mem' := fun _ => [(1, .cells ((fr0 0).x) 32 [.int .i64 a, .int .i64 b]), (2, .cells ((fr0 1).x) 32 [.int .i64 c, .int .i64 d])]) (RunsTo.mk [(1, { act := .load 1 0 0 [] }), (3, { act := .load 2 0 0 [] })] [2, 3, 5] [1, 2] (fun _ => [(fr0 0).x = (fr0 0).x, (fr0 1).x = (fr0 1).x]) (fun _ => by kernel_rfl) (fun _ => ⟨rfl, rfl, trivial⟩)) ?_
  intro _
  refine GS.cond (t := decide (a < c)) rfl rfl (fun h => ?_) (fun h => ?_)
  · replace h := of_decide_eq_true h
    refine GS.skip ?_
    refine GS.cond (t := decide (a < c)) rfl rfl (fun h0 => ?_) (fun h0 => ?_)
    · replace h0 := of_decide_eq_true h0
      refine GS.seq ?_
      -- region 3, ref.go:21
      refine GS.region (env' := fun _ => [(4, .int .i64 (-1))]) (mem' := fun _ => [(1, .cells ((fr0 0).x) 32 [.int .i64 a, .int .i64 b]), (2, .cells ((fr0 1).x) 32 [.int .i64 c, .int .i64 d])]) (RunsTo.mk [] [4] [1, 2] (fun _ => []) (fun _ => by kernel_rfl) (fun _ => trivial)) ?_
      intro _
      refine GS.ret (fn := Try.f24) [0] [.int .i64 (-1)] [] rfl Try.func24 (by kernel_rfl) trivial (fun w' hs => ?_)
      exact ⟨by unfold verF cmpI; simp at *; (repeat' split) <;> first | rfl | omega | (exfalso; omega), hs.keep⟩
    · replace h0 := of_decide_eq_false h0
      refine GS.seq ?_
      -- region 4, ref.go:22
      refine GS.region (env' := fun _ => [(23, .bool ((a == c) && ((b == d) && true)))]) (mem' := fun _ => [(1, .cells ((fr0 0).x) 32 [.int .i64 a, .int .i64 b]), (2, .cells ((fr0 1).x) 32 [.int .i64 c, .int .i64 d])]) (RunsTo.mk [(0, { act := .load 1 0 0 [] }), (1, { act := .load 2 0 0 [] }), (2, { act := .eq })] [23] [1, 2] (fun _ => [(fr0 0).x = (fr0 0).x, (fr0 1).x = (fr0 1).x]) (fun _ => by kernel_rfl) (fun _ => ⟨rfl, rfl, trivial⟩)) ?_
      intro _
      refine GS.cond (t := (a == c) && ((b == d) && true)) rfl rfl (fun h1 => ?_) (fun h1 => ?_)
      · skip
        refine GS.seq ?_
        -- region 5, ref.go:23
        refine GS.region (env' := fun _ => [(4, .int .i64 0)]) (mem' := fun _ => [(1, .cells ((fr0 0).x) 32 [.int .i64 a, .int .i64 b]), (2, .cells ((fr0 1).x) 32 [.int .i64 c, .int .i64 d])]) (RunsTo.mk [] [4] [1, 2] (fun _ => []) (fun _ => by kernel_rfl) (fun _ => trivial)) ?_
        intro _
        refine GS.ret (fn := Try.f24) [0] [.int .i64 0] [] rfl Try.func24 (by kernel_rfl) trivial (fun w' hs => ?_)
        exact ⟨by unfold verF cmpI; simp at *; (repeat' split) <;> first | rfl | omega | (exfalso; omega), hs.keep⟩
      · skip
        refine GS.skip ?_
        refine GS.inBlock ?_
        refine GS.seq ?_
        -- region 6, ref.go:25
        refine GS.region (env' := fun _ => [(4, .int .i64 1)]) (mem' := fun _ => [(1, .cells ((fr0 0).x) 32 [.int .i64 a, .int .i64 b]), (2, .cells ((fr0 1).x) 32 [.int .i64 c, .int .i64 d])]) (RunsTo.mk [] [4] [1, 2] (fun _ => []) (fun _ => by kernel_rfl) (fun _ => trivial)) ?_
        intro _
        refine GS.ret (fn := Try.f24) [0] [.int .i64 1] [] rfl Try.func24 (by kernel_rfl) trivial (fun w' hs => ?_)
        exact ⟨by unfold verF cmpI; simp at *; (repeat' split) <;> first | rfl | omega | (exfalso; omega), hs.keep⟩
  · replace h := of_decide_eq_false h
    -- region 2, ref.go:20
    refine GS.region (env' := fun _ => [(2, .pointer (some ⟨(fr0 0).x, 0, none⟩)), (3, .pointer (some ⟨(fr0 1).x, 0, none⟩)), (5, .bool ((a == c) && (decide (b < d))))]) (mem' := fun _ => [(1, .cells ((fr0 0).x) 32 [.int .i64 a, .int .i64 b]), (2, .cells ((fr0 1).x) 32 [.int .i64 c, .int .i64 d])]) ?_ ?_
    · rcases Bool.eq_false_or_eq_true (a == c) with hg0 | hg0
      · have hg0' := hg0
        exact RunsTo.mk [(1, { act := .load 1 0 0 [] }), (3, { act := .load 2 0 0 [] }), (5, { sp := some (.bool true) }), (7, { act := .load 1 0 0 [] }), (9, { act := .load 2 0 0 [] }), (12, { sp := some (.bool ((a == c) && (decide (b < d)))) })] [2, 3, 5] [1, 2] (fun _ => [(fr0 0).x = (fr0 0).x, (fr0 1).x = (fr0 1).x, ((.bool (a == c)) : Value) = .bool true, (fr0 0).x = (fr0 0).x, (fr0 1).x = (fr0 1).x, ((.bool (decide (b < d))) : Value) = .bool ((a == c) && (decide (b < d)))]) (fun _ => by kernel_rfl) (fun _ => ⟨rfl, rfl, bool_eq (by assumption), rfl, rfl, bool_eq (by first | (simp only [hg0, Bool.true_and, Bool.false_and, Bool.and_true, Bool.and_false, Bool.true_or, Bool.false_or, Bool.or_true, Bool.or_false, Bool.not_true, Bool.not_false]) | simp [hg0]), trivial⟩)
      · have hg0' := hg0
        exact RunsTo.mk [(1, { act := .load 1 0 0 [] }), (3, { act := .load 2 0 0 [] }), (5, { sp := some (.bool false) }), (12, { sp := some (.bool ((a == c) && (decide (b < d)))) })] [2, 3, 5] [1, 2] (fun _ => [(fr0 0).x = (fr0 0).x, (fr0 1).x = (fr0 1).x, ((.bool (a == c)) : Value) = .bool false, ((.bool false) : Value) = .bool ((a == c) && (decide (b < d)))]) (fun _ => by kernel_rfl) (fun _ => ⟨rfl, rfl, bool_eq (by assumption), bool_eq (by first | (simp only [hg0, Bool.true_and, Bool.false_and, Bool.and_true, Bool.and_false, Bool.true_or, Bool.false_or, Bool.or_true, Bool.or_false, Bool.not_true, Bool.not_false]) | simp [hg0]), trivial⟩)
    intro _
    refine GS.cond (t := (a == c) && (decide (b < d))) rfl rfl (fun h0 => ?_) (fun h0 => ?_)
    · skip
      refine GS.seq ?_
      -- region 3, ref.go:21
      refine GS.region (env' := fun _ => [(4, .int .i64 (-1))]) (mem' := fun _ => [(1, .cells ((fr0 0).x) 32 [.int .i64 a, .int .i64 b]), (2, .cells ((fr0 1).x) 32 [.int .i64 c, .int .i64 d])]) (RunsTo.mk [] [4] [1, 2] (fun _ => []) (fun _ => by kernel_rfl) (fun _ => trivial)) ?_
      intro _
      refine GS.ret (fn := Try.f24) [0] [.int .i64 (-1)] [] rfl Try.func24 (by kernel_rfl) trivial (fun w' hs => ?_)
      exact ⟨by unfold verF cmpI; simp at *; (repeat' split) <;> first | rfl | omega | (exfalso; omega), hs.keep⟩
    · skip
      refine GS.seq ?_
      -- region 4, ref.go:22
      refine GS.region (env' := fun _ => [(23, .bool ((a == c) && ((b == d) && true)))]) (mem' := fun _ => [(1, .cells ((fr0 0).x) 32 [.int .i64 a, .int .i64 b]), (2, .cells ((fr0 1).x) 32 [.int .i64 c, .int .i64 d])]) (RunsTo.mk [(0, { act := .load 1 0 0 [] }), (1, { act := .load 2 0 0 [] }), (2, { act := .eq })] [23] [1, 2] (fun _ => [(fr0 0).x = (fr0 0).x, (fr0 1).x = (fr0 1).x]) (fun _ => by kernel_rfl) (fun _ => ⟨rfl, rfl, trivial⟩)) ?_
      intro _
      refine GS.cond (t := (a == c) && ((b == d) && true)) rfl rfl (fun h1 => ?_) (fun h1 => ?_)
      · skip
        refine GS.seq ?_
        -- region 5, ref.go:23
        refine GS.region (env' := fun _ => [(4, .int .i64 0)]) (mem' := fun _ => [(1, .cells ((fr0 0).x) 32 [.int .i64 a, .int .i64 b]), (2, .cells ((fr0 1).x) 32 [.int .i64 c, .int .i64 d])]) (RunsTo.mk [] [4] [1, 2] (fun _ => []) (fun _ => by kernel_rfl) (fun _ => trivial)) ?_
        intro _
        refine GS.ret (fn := Try.f24) [0] [.int .i64 0] [] rfl Try.func24 (by kernel_rfl) trivial (fun w' hs => ?_)
        exact ⟨by unfold verF cmpI; simp at *; (repeat' split) <;> first | rfl | omega | (exfalso; omega), hs.keep⟩
      · skip
        refine GS.skip ?_
        refine GS.inBlock ?_
        refine GS.seq ?_
        -- region 6, ref.go:25
        refine GS.region (env' := fun _ => [(4, .int .i64 1)]) (mem' := fun _ => [(1, .cells ((fr0 0).x) 32 [.int .i64 a, .int .i64 b]), (2, .cells ((fr0 1).x) 32 [.int .i64 c, .int .i64 d])]) (RunsTo.mk [] [4] [1, 2] (fun _ => []) (fun _ => by kernel_rfl) (fun _ => trivial)) ?_
        intro _
        refine GS.ret (fn := Try.f24) [0] [.int .i64 1] [] rfl Try.func24 (by kernel_rfl) trivial (fun w' hs => ?_)
        exact ⟨by unfold verF cmpI; simp at *; (repeat' split) <;> first | rfl | omega | (exfalso; omega), hs.keep⟩

end Go.Proofs.Ythaokdobgmbeeaa
