/-
  CHAPTER 01: the functions do what their models say (1).
-/
import Derived.Test.YtmjlfdllpnkgoaaE01
set_option linter.unusedVariables false
set_option linter.unusedSimpArgs false
set_option maxRecDepth 100000
namespace Go.Proofs.Ytmjlfdllpnkgoaa
open Go Go.RowKit Sx

theorem w_digest_New (F : Nat) {y : S_digest_Engine} (hm : m_digest_New F = some y) : CallG Try.prog 10 #[] (X := Nat) (fun (x0 : Nat) => .pointer (some ⟨x0, 0, none⟩)) [] [] (fun (x0 : Nat) => [.cells x0 60 (([.int .u32 y.once.done.v, .int .i32 y.once.m.mu.state, .int .u32 y.once.m.mu.sema] : List Value) ++ (aU32 y.table ++ (([.int .i64 y.calls.v] : List Value))))]) := by
  intro w hg
  rw [m_digest_New] at hm
  refine GS.start (S := mayT [] []) (mem := []) Try.func10 rfl Try.ntmps10 (Nat.le_of_ble_eq_true rfl) (hg.start rfl) ?_
  refine GS.conv (env' := []) rfl rfl ?_
  refine GS.seq ?_
  refine GS.region (env' := fun _ => []) (mem' := fun _ => []) (RunsTo.mk [] [] [] (fun _ => []) (fun _ => by kernel_rfl) (fun _ => trivial)) ?_
  intro _
  refine GS.seq ?_
  refine GS.region (env' := fun fr2 => [(0, .pointer (some ⟨(fr2 1).x, 0, none⟩))]) (mem' := fun fr2 => [(1, .cells ((fr2 1).x) 60 (([.int .u32 0, .int .i32 0, .int .u32 0] : List Value) ++ (aU32 (List.replicate 256 0) ++ (([.int .i64 0] : List Value)))))]) (RunsTo.mk [(1, { act := .new .var, key := some 1 })] [0] [1] (fun fr2 => []) (fun fr2 => by kernel_rfl) (fun fr2 => trivial)) ?_
  intro fr2
  have hy := Option.some.inj hm
  subst hy
  refine GS.ret (fn := Try.f10) [0] [.pointer (some ⟨(fr2 1).x, 0, none⟩)] [] rfl Try.func10 (by kernel_rfl) trivial (fun w' hs => ?_)
  exact ⟨((fr2 1).x), rfl, hs.turnedG (ks := [1]) rfl rfl⟩

theorem w___digest_trio__mix (F : Nat) (a0b : Nat) (a0_0 : Int) (a0_1 : Int) (a0_2 : Int) {y : Int × Int × Int} (hm : m___digest_trio__mix F a0_0 a0_1 a0_2 = some y) : CallG Try.prog 37 #[.pointer (some ⟨a0b, 0, none⟩)] (X := Unit) (fun (_ : Unit) => .tuple #[]) [.cells a0b 72 [.int .u32 a0_0, .int .u32 a0_1, .int .u32 a0_2]] [] (fun (_ : Unit) => [.cells a0b 72 [.int .u32 y.1, .int .u32 y.2.1, .int .u32 y.2.2]]) := by
  intro w hg
  rw [m___digest_trio__mix] at hm
  refine GS.start (S := mayT [.cells a0b 72 [.int .u32 a0_0, .int .u32 a0_1, .int .u32 a0_2]] []) (mem := [(1, .cells a0b 72 [.int .u32 a0_0, .int .u32 a0_1, .int .u32 a0_2])]) Try.func37 rfl Try.ntmps37 (Nat.le_of_ble_eq_true rfl) (hg.start rfl) ?_
  refine GS.conv (env' := [(0, .pointer (some ⟨a0b, 0, none⟩))]) rfl rfl ?_
  refine GS.seq ?_
  refine GS.region (env' := fun _ => [(0, .pointer (some ⟨a0b, 0, none⟩)), (2, .int .u32 a0_0), (3, .int .u32 a0_1), (4, .int .u32 a0_2)]) (mem' := fun _ => [(1, .cells a0b 72 [.int .u32 a0_0, .int .u32 a0_1, .int .u32 a0_2])]) (RunsTo.mkd [(3, { act := .load 1 0 0 [] }), (7, { act := .load 1 0 0 [] }), (11, { act := .load 1 0 0 [] })] [0, 2, 3, 4] [1] (fun _ => [a0b = a0b, a0b = a0b, a0b = a0b]) (by kernel_rfl) (by kernel_rfl) (fun _ => by kernel_rfl) (fun _ => ⟨rfl, rfl, rfl, trivial⟩)) ?_
  intro _
  refine GS.seq ?_
  refine GS.seq ?_
  refine GS.region (env' := fun _ => [(0, .pointer (some ⟨a0b, 0, none⟩)), (2, .int .u32 a0_0), (3, .int .u32 a0_1), (4, .int .u32 a0_2), (22, .agg #[.int .i64 13, .int .i64 8, .int .i64 13, .int .i64 12, .int .i64 16, .int .i64 5, .int .i64 3, .int .i64 10, .int .i64 15]), (23, .int .i64 0)]) (mem' := fun _ => [(1, .cells a0b 72 [.int .u32 a0_0, .int .u32 a0_1, .int .u32 a0_2])]) (RunsTo.mk [] [0, 2, 3, 4, 22, 23] [1] (fun _ => []) (fun _ => by kernel_rfl) (fun _ => trivial)) ?_
  intro _
  refine GS.block ?_
  refine GS.loop ?_
  refine GS.seq ?_
  refine GS.region (env' := fun _ => [(0, .pointer (some ⟨a0b, 0, none⟩)), (2, .int .u32 a0_0), (3, .int .u32 a0_1), (4, .int .u32 a0_2), (22, .agg #[.int .i64 13, .int .i64 8, .int .i64 13, .int .i64 12, .int .i64 16, .int .i64 5, .int .i64 3, .int .i64 10, .int .i64 15]), (23, .int .i64 0), (24, .bool true)]) (mem' := fun _ => [(1, .cells a0b 72 [.int .u32 a0_0, .int .u32 a0_1, .int .u32 a0_2])]) (RunsTo.mk [] [0, 2, 3, 4, 22, 23, 24] [1] (fun _ => []) (fun _ => by kernel_rfl) (fun _ => trivial)) ?_
  intro _
  refine GS.seq ?_
  refine GS.cond (t := true) rfl rfl (fun _ => ?_) (fun hf => by cases hf)
  refine GS.skip ?_
  refine GS.seq ?_
  refine GS.block ?_
  refine GS.seq ?_
  refine GS.region (env' := fun fr4 => [(0, .pointer (some ⟨a0b, 0, none⟩)), (2, .int .u32 a0_0), (3, .int .u32 a0_1), (4, .int .u32 a0_2), (6, .pointer (some ⟨(fr4 1).x, 0, none⟩)), (22, .agg #[.int .i64 13, .int .i64 8, .int .i64 13, .int .i64 12, .int .i64 16, .int .i64 5, .int .i64 3, .int .i64 10, .int .i64 15]), (23, .int .i64 0)]) (mem' := fun fr4 => [(1, .cells a0b 72 [.int .u32 a0_0, .int .u32 a0_1, .int .u32 a0_2]), (2, .cells ((fr4 1).x) 96 [.int .i64 13, .int .i64 8, .int .i64 13])]) (RunsTo.mk [(1, { act := .new .var, key := some 2 }), (2, { act := .store 0 0 [], key := some 2 })] [0, 2, 3, 4, 6, 22, 23] [1, 2] (fun fr4 => [(fr4 1).x = (fr4 1).x, ((.agg #[.int .i64 13, .int .i64 8, .int .i64 13]) : Value).cells.toList.all Value.oneCell' = true]) (fun fr4 => by kernel_rfl) (fun fr4 => ⟨rfl, rfl, trivial⟩)) ?_
  intro fr4
  refine GS.seq ?_
  refine GS.region (env' := fun _ => [(0, .pointer (some ⟨a0b, 0, none⟩)), (2, .int .u32 (ixor .u32 (IntKind.u32.wrap ((IntKind.u32.wrap (a0_0 - a0_1)) - a0_2)) (Int.fdiv a0_2 (2 ^ 13)))), (3, .int .u32 a0_1), (4, .int .u32 a0_2), (6, .pointer (some ⟨(fr4 1).x, 0, none⟩)), (22, .agg #[.int .i64 13, .int .i64 8, .int .i64 13, .int .i64 12, .int .i64 16, .int .i64 5, .int .i64 3, .int .i64 10, .int .i64 15]), (23, .int .i64 0)]) (mem' := fun _ => [(1, .cells a0b 72 [.int .u32 a0_0, .int .u32 a0_1, .int .u32 a0_2]), (2, .cells ((fr4 1).x) 96 [.int .i64 13, .int .i64 8, .int .i64 13])]) (RunsTo.mk [(7, { act := .load 2 0 0 [] })] [0, 2, 3, 4, 6, 22, 23] [1, 2] (fun _ => [(fr4 1).x = (fr4 1).x]) (fun _ => by kernel_rfl) (fun _ => ⟨rfl, trivial⟩)) ?_
  intro _
  refine GS.seq ?_
  refine GS.region (env' := fun _ => [(0, .pointer (some ⟨a0b, 0, none⟩)), (2, .int .u32 (ixor .u32 (IntKind.u32.wrap ((IntKind.u32.wrap (a0_0 - a0_1)) - a0_2)) (Int.fdiv a0_2 (2 ^ 13)))), (3, .int .u32 (ixor .u32 (IntKind.u32.wrap ((IntKind.u32.wrap (a0_1 - a0_2)) - (ixor .u32 (IntKind.u32.wrap ((IntKind.u32.wrap (a0_0 - a0_1)) - a0_2)) (Int.fdiv a0_2 (2 ^ 13))))) (IntKind.u32.wrap ((ixor .u32 (IntKind.u32.wrap ((IntKind.u32.wrap (a0_0 - a0_1)) - a0_2)) (Int.fdiv a0_2 (2 ^ 13))) * 2 ^ 8)))), (4, .int .u32 a0_2), (6, .pointer (some ⟨(fr4 1).x, 0, none⟩)), (22, .agg #[.int .i64 13, .int .i64 8, .int .i64 13, .int .i64 12, .int .i64 16, .int .i64 5, .int .i64 3, .int .i64 10, .int .i64 15]), (23, .int .i64 0)]) (mem' := fun _ => [(1, .cells a0b 72 [.int .u32 a0_0, .int .u32 a0_1, .int .u32 a0_2]), (2, .cells ((fr4 1).x) 96 [.int .i64 13, .int .i64 8, .int .i64 13])]) (RunsTo.mk [(7, { act := .load 2 0 0 [] })] [0, 2, 3, 4, 6, 22, 23] [1, 2] (fun _ => [(fr4 1).x = (fr4 1).x]) (fun _ => by kernel_rfl) (fun _ => ⟨rfl, trivial⟩)) ?_
  intro _
  refine bnd_elim hm (fun y7 e8 hm => ?_)
  refine GS.conv (env' := [(0, .pointer (some ⟨a0b, 0, none⟩)), (2, .int .u32 (ixor .u32 (IntKind.u32.wrap ((IntKind.u32.wrap (a0_0 - a0_1)) - a0_2)) (Int.fdiv a0_2 (2 ^ 13)))), (3, .int .u32 y7), (4, .int .u32 a0_2), (6, .pointer (some ⟨(fr4 1).x, 0, none⟩)), (22, .agg #[.int .i64 13, .int .i64 8, .int .i64 13, .int .i64 12, .int .i64 16, .int .i64 5, .int .i64 3, .int .i64 10, .int .i64 15]), (23, .int .i64 0)]) (congrArg (fun vhole : Int => ([(0, .pointer (some ⟨a0b, 0, none⟩)), (2, .int .u32 (ixor .u32 (IntKind.u32.wrap ((IntKind.u32.wrap (a0_0 - a0_1)) - a0_2)) (Int.fdiv a0_2 (2 ^ 13)))), (3, .int .u32 vhole), (4, .int .u32 a0_2), (6, .pointer (some ⟨(fr4 1).x, 0, none⟩)), (22, .agg #[.int .i64 13, .int .i64 8, .int .i64 13, .int .i64 12, .int .i64 16, .int .i64 5, .int .i64 3, .int .i64 10, .int .i64 15]), (23, .int .i64 0)] : List (Nat × Value))) (Option.some.inj e8)) rfl ?_
  refine GS.region (env' := fun _ => [(0, .pointer (some ⟨a0b, 0, none⟩)), (2, .int .u32 (ixor .u32 (IntKind.u32.wrap ((IntKind.u32.wrap (a0_0 - a0_1)) - a0_2)) (Int.fdiv a0_2 (2 ^ 13)))), (3, .int .u32 y7), (4, .int .u32 (ixor .u32 (IntKind.u32.wrap ((IntKind.u32.wrap (a0_2 - (ixor .u32 (IntKind.u32.wrap ((IntKind.u32.wrap (a0_0 - a0_1)) - a0_2)) (Int.fdiv a0_2 (2 ^ 13))))) - y7)) (Int.fdiv y7 (2 ^ 13)))), (22, .agg #[.int .i64 13, .int .i64 8, .int .i64 13, .int .i64 12, .int .i64 16, .int .i64 5, .int .i64 3, .int .i64 10, .int .i64 15]), (23, .int .i64 0)]) (mem' := fun _ => [(1, .cells a0b 72 [.int .u32 a0_0, .int .u32 a0_1, .int .u32 a0_2])]) (RunsTo.mk [(7, { act := .load 2 0 0 [] })] [0, 2, 3, 4, 22, 23] [1] (fun _ => [(fr4 1).x = (fr4 1).x]) (fun _ => by kernel_rfl) (fun _ => ⟨rfl, trivial⟩)) ?_
  intro _
  refine GS.inBlock ?_
  refine bnd_elim hm (fun y10 e11 hm => ?_)
  refine GS.conv (env' := [(0, .pointer (some ⟨a0b, 0, none⟩)), (2, .int .u32 (ixor .u32 (IntKind.u32.wrap ((IntKind.u32.wrap (a0_0 - a0_1)) - a0_2)) (Int.fdiv a0_2 (2 ^ 13)))), (3, .int .u32 y7), (4, .int .u32 y10), (22, .agg #[.int .i64 13, .int .i64 8, .int .i64 13, .int .i64 12, .int .i64 16, .int .i64 5, .int .i64 3, .int .i64 10, .int .i64 15]), (23, .int .i64 0)]) (congrArg (fun vhole : Int => ([(0, .pointer (some ⟨a0b, 0, none⟩)), (2, .int .u32 (ixor .u32 (IntKind.u32.wrap ((IntKind.u32.wrap (a0_0 - a0_1)) - a0_2)) (Int.fdiv a0_2 (2 ^ 13)))), (3, .int .u32 y7), (4, .int .u32 vhole), (22, .agg #[.int .i64 13, .int .i64 8, .int .i64 13, .int .i64 12, .int .i64 16, .int .i64 5, .int .i64 3, .int .i64 10, .int .i64 15]), (23, .int .i64 0)] : List (Nat × Value))) (Option.some.inj e11)) rfl ?_
  refine GS.region (env' := fun _ => [(0, .pointer (some ⟨a0b, 0, none⟩)), (2, .int .u32 (ixor .u32 (IntKind.u32.wrap ((IntKind.u32.wrap (a0_0 - a0_1)) - a0_2)) (Int.fdiv a0_2 (2 ^ 13)))), (3, .int .u32 y7), (4, .int .u32 y10), (22, .agg #[.int .i64 13, .int .i64 8, .int .i64 13, .int .i64 12, .int .i64 16, .int .i64 5, .int .i64 3, .int .i64 10, .int .i64 15]), (23, .int .i64 1)]) (mem' := fun _ => [(1, .cells a0b 72 [.int .u32 a0_0, .int .u32 a0_1, .int .u32 a0_2])]) (RunsTo.mk [] [0, 2, 3, 4, 22, 23] [1] (fun _ => []) (fun _ => by kernel_rfl) (fun _ => trivial)) ?_
  intro _
  refine GS.inLoop ?_
  refine GS.seq ?_
  refine GS.region (env' := fun _ => [(0, .pointer (some ⟨a0b, 0, none⟩)), (2, .int .u32 (ixor .u32 (IntKind.u32.wrap ((IntKind.u32.wrap (a0_0 - a0_1)) - a0_2)) (Int.fdiv a0_2 (2 ^ 13)))), (3, .int .u32 y7), (4, .int .u32 y10), (22, .agg #[.int .i64 13, .int .i64 8, .int .i64 13, .int .i64 12, .int .i64 16, .int .i64 5, .int .i64 3, .int .i64 10, .int .i64 15]), (23, .int .i64 1), (24, .bool true)]) (mem' := fun _ => [(1, .cells a0b 72 [.int .u32 a0_0, .int .u32 a0_1, .int .u32 a0_2])]) (RunsTo.mk [] [0, 2, 3, 4, 22, 23, 24] [1] (fun _ => []) (fun _ => by kernel_rfl) (fun _ => trivial)) ?_
  intro _
  refine GS.seq ?_
  refine GS.cond (t := true) rfl rfl (fun _ => ?_) (fun hf => by cases hf)
  refine GS.skip ?_
  refine GS.seq ?_
  refine GS.block ?_
  refine GS.seq ?_
  refine GS.region (env' := fun fr14 => [(0, .pointer (some ⟨a0b, 0, none⟩)), (2, .int .u32 (ixor .u32 (IntKind.u32.wrap ((IntKind.u32.wrap (a0_0 - a0_1)) - a0_2)) (Int.fdiv a0_2 (2 ^ 13)))), (3, .int .u32 y7), (4, .int .u32 y10), (6, .pointer (some ⟨(fr14 1).x, 0, none⟩)), (22, .agg #[.int .i64 13, .int .i64 8, .int .i64 13, .int .i64 12, .int .i64 16, .int .i64 5, .int .i64 3, .int .i64 10, .int .i64 15]), (23, .int .i64 1)]) (mem' := fun fr14 => [(1, .cells a0b 72 [.int .u32 a0_0, .int .u32 a0_1, .int .u32 a0_2]), (3, .cells ((fr14 1).x) 96 [.int .i64 12, .int .i64 16, .int .i64 5])]) (RunsTo.mk [(1, { act := .new .var, key := some 3 }), (2, { act := .store 0 0 [], key := some 3 })] [0, 2, 3, 4, 6, 22, 23] [1, 3] (fun fr14 => [(fr14 1).x = (fr14 1).x, ((.agg #[.int .i64 12, .int .i64 16, .int .i64 5]) : Value).cells.toList.all Value.oneCell' = true]) (fun fr14 => by kernel_rfl) (fun fr14 => ⟨rfl, rfl, trivial⟩)) ?_
  intro fr14
  refine GS.seq ?_
  refine GS.region (env' := fun _ => [(0, .pointer (some ⟨a0b, 0, none⟩)), (2, .int .u32 (ixor .u32 (IntKind.u32.wrap ((IntKind.u32.wrap ((ixor .u32 (IntKind.u32.wrap ((IntKind.u32.wrap (a0_0 - a0_1)) - a0_2)) (Int.fdiv a0_2 (2 ^ 13))) - y7)) - y10)) (Int.fdiv y10 (2 ^ 12)))), (3, .int .u32 y7), (4, .int .u32 y10), (6, .pointer (some ⟨(fr14 1).x, 0, none⟩)), (22, .agg #[.int .i64 13, .int .i64 8, .int .i64 13, .int .i64 12, .int .i64 16, .int .i64 5, .int .i64 3, .int .i64 10, .int .i64 15]), (23, .int .i64 1)]) (mem' := fun _ => [(1, .cells a0b 72 [.int .u32 a0_0, .int .u32 a0_1, .int .u32 a0_2]), (3, .cells ((fr14 1).x) 96 [.int .i64 12, .int .i64 16, .int .i64 5])]) (RunsTo.mk [(7, { act := .load 3 0 0 [] })] [0, 2, 3, 4, 6, 22, 23] [1, 3] (fun _ => [(fr14 1).x = (fr14 1).x]) (fun _ => by kernel_rfl) (fun _ => ⟨rfl, trivial⟩)) ?_
  intro _
  refine GS.seq ?_
  refine bnd_elim hm (fun y16 e17 hm => ?_)
  refine GS.conv (env' := [(0, .pointer (some ⟨a0b, 0, none⟩)), (2, .int .u32 y16), (3, .int .u32 y7), (4, .int .u32 y10), (6, .pointer (some ⟨(fr14 1).x, 0, none⟩)), (22, .agg #[.int .i64 13, .int .i64 8, .int .i64 13, .int .i64 12, .int .i64 16, .int .i64 5, .int .i64 3, .int .i64 10, .int .i64 15]), (23, .int .i64 1)]) (congrArg (fun vhole : Int => ([(0, .pointer (some ⟨a0b, 0, none⟩)), (2, .int .u32 vhole), (3, .int .u32 y7), (4, .int .u32 y10), (6, .pointer (some ⟨(fr14 1).x, 0, none⟩)), (22, .agg #[.int .i64 13, .int .i64 8, .int .i64 13, .int .i64 12, .int .i64 16, .int .i64 5, .int .i64 3, .int .i64 10, .int .i64 15]), (23, .int .i64 1)] : List (Nat × Value))) (Option.some.inj e17)) rfl ?_
  refine GS.region (env' := fun _ => [(0, .pointer (some ⟨a0b, 0, none⟩)), (2, .int .u32 y16), (3, .int .u32 (ixor .u32 (IntKind.u32.wrap ((IntKind.u32.wrap (y7 - y10)) - y16)) (IntKind.u32.wrap (y16 * 2 ^ 16)))), (4, .int .u32 y10), (6, .pointer (some ⟨(fr14 1).x, 0, none⟩)), (22, .agg #[.int .i64 13, .int .i64 8, .int .i64 13, .int .i64 12, .int .i64 16, .int .i64 5, .int .i64 3, .int .i64 10, .int .i64 15]), (23, .int .i64 1)]) (mem' := fun _ => [(1, .cells a0b 72 [.int .u32 a0_0, .int .u32 a0_1, .int .u32 a0_2]), (3, .cells ((fr14 1).x) 96 [.int .i64 12, .int .i64 16, .int .i64 5])]) (RunsTo.mk [(7, { act := .load 3 0 0 [] })] [0, 2, 3, 4, 6, 22, 23] [1, 3] (fun _ => [(fr14 1).x = (fr14 1).x]) (fun _ => by kernel_rfl) (fun _ => ⟨rfl, trivial⟩)) ?_
  intro _
  refine GS.region (env' := fun _ => [(0, .pointer (some ⟨a0b, 0, none⟩)), (2, .int .u32 y16), (3, .int .u32 (ixor .u32 (IntKind.u32.wrap ((IntKind.u32.wrap (y7 - y10)) - y16)) (IntKind.u32.wrap (y16 * 2 ^ 16)))), (4, .int .u32 (ixor .u32 (IntKind.u32.wrap ((IntKind.u32.wrap (y10 - y16)) - (ixor .u32 (IntKind.u32.wrap ((IntKind.u32.wrap (y7 - y10)) - y16)) (IntKind.u32.wrap (y16 * 2 ^ 16))))) (Int.fdiv (ixor .u32 (IntKind.u32.wrap ((IntKind.u32.wrap (y7 - y10)) - y16)) (IntKind.u32.wrap (y16 * 2 ^ 16))) (2 ^ 5)))), (22, .agg #[.int .i64 13, .int .i64 8, .int .i64 13, .int .i64 12, .int .i64 16, .int .i64 5, .int .i64 3, .int .i64 10, .int .i64 15]), (23, .int .i64 1)]) (mem' := fun _ => [(1, .cells a0b 72 [.int .u32 a0_0, .int .u32 a0_1, .int .u32 a0_2])]) (RunsTo.mk [(7, { act := .load 3 0 0 [] })] [0, 2, 3, 4, 22, 23] [1] (fun _ => [(fr14 1).x = (fr14 1).x]) (fun _ => by kernel_rfl) (fun _ => ⟨rfl, trivial⟩)) ?_
  intro _
  refine GS.inBlock ?_
  refine bnd_elim hm (fun y20 e21 hm => ?_)
  refine GS.conv (env' := [(0, .pointer (some ⟨a0b, 0, none⟩)), (2, .int .u32 y16), (3, .int .u32 (ixor .u32 (IntKind.u32.wrap ((IntKind.u32.wrap (y7 - y10)) - y16)) (IntKind.u32.wrap (y16 * 2 ^ 16)))), (4, .int .u32 y20), (22, .agg #[.int .i64 13, .int .i64 8, .int .i64 13, .int .i64 12, .int .i64 16, .int .i64 5, .int .i64 3, .int .i64 10, .int .i64 15]), (23, .int .i64 1)]) (congrArg (fun vhole : Int => ([(0, .pointer (some ⟨a0b, 0, none⟩)), (2, .int .u32 y16), (3, .int .u32 (ixor .u32 (IntKind.u32.wrap ((IntKind.u32.wrap (y7 - y10)) - y16)) (IntKind.u32.wrap (y16 * 2 ^ 16)))), (4, .int .u32 vhole), (22, .agg #[.int .i64 13, .int .i64 8, .int .i64 13, .int .i64 12, .int .i64 16, .int .i64 5, .int .i64 3, .int .i64 10, .int .i64 15]), (23, .int .i64 1)] : List (Nat × Value))) (Option.some.inj e21)) rfl ?_
  refine GS.region (env' := fun _ => [(0, .pointer (some ⟨a0b, 0, none⟩)), (2, .int .u32 y16), (3, .int .u32 (ixor .u32 (IntKind.u32.wrap ((IntKind.u32.wrap (y7 - y10)) - y16)) (IntKind.u32.wrap (y16 * 2 ^ 16)))), (4, .int .u32 y20), (22, .agg #[.int .i64 13, .int .i64 8, .int .i64 13, .int .i64 12, .int .i64 16, .int .i64 5, .int .i64 3, .int .i64 10, .int .i64 15]), (23, .int .i64 2)]) (mem' := fun _ => [(1, .cells a0b 72 [.int .u32 a0_0, .int .u32 a0_1, .int .u32 a0_2])]) (RunsTo.mk [] [0, 2, 3, 4, 22, 23] [1] (fun _ => []) (fun _ => by kernel_rfl) (fun _ => trivial)) ?_
  intro _
  refine GS.inLoop ?_
  refine GS.seq ?_
  refine GS.region (env' := fun _ => [(0, .pointer (some ⟨a0b, 0, none⟩)), (2, .int .u32 y16), (3, .int .u32 (ixor .u32 (IntKind.u32.wrap ((IntKind.u32.wrap (y7 - y10)) - y16)) (IntKind.u32.wrap (y16 * 2 ^ 16)))), (4, .int .u32 y20), (22, .agg #[.int .i64 13, .int .i64 8, .int .i64 13, .int .i64 12, .int .i64 16, .int .i64 5, .int .i64 3, .int .i64 10, .int .i64 15]), (23, .int .i64 2), (24, .bool true)]) (mem' := fun _ => [(1, .cells a0b 72 [.int .u32 a0_0, .int .u32 a0_1, .int .u32 a0_2])]) (RunsTo.mk [] [0, 2, 3, 4, 22, 23, 24] [1] (fun _ => []) (fun _ => by kernel_rfl) (fun _ => trivial)) ?_
  intro _
  refine GS.seq ?_
  refine GS.cond (t := true) rfl rfl (fun _ => ?_) (fun hf => by cases hf)
  refine GS.skip ?_
  refine GS.seq ?_
  refine GS.block ?_
  refine GS.seq ?_
  refine GS.region (env' := fun fr24 => [(0, .pointer (some ⟨a0b, 0, none⟩)), (2, .int .u32 y16), (3, .int .u32 (ixor .u32 (IntKind.u32.wrap ((IntKind.u32.wrap (y7 - y10)) - y16)) (IntKind.u32.wrap (y16 * 2 ^ 16)))), (4, .int .u32 y20), (6, .pointer (some ⟨(fr24 1).x, 0, none⟩)), (22, .agg #[.int .i64 13, .int .i64 8, .int .i64 13, .int .i64 12, .int .i64 16, .int .i64 5, .int .i64 3, .int .i64 10, .int .i64 15]), (23, .int .i64 2)]) (mem' := fun fr24 => [(1, .cells a0b 72 [.int .u32 a0_0, .int .u32 a0_1, .int .u32 a0_2]), (4, .cells ((fr24 1).x) 96 [.int .i64 3, .int .i64 10, .int .i64 15])]) (RunsTo.mk [(1, { act := .new .var, key := some 4 }), (2, { act := .store 0 0 [], key := some 4 })] [0, 2, 3, 4, 6, 22, 23] [1, 4] (fun fr24 => [(fr24 1).x = (fr24 1).x, ((.agg #[.int .i64 3, .int .i64 10, .int .i64 15]) : Value).cells.toList.all Value.oneCell' = true]) (fun fr24 => by kernel_rfl) (fun fr24 => ⟨rfl, rfl, trivial⟩)) ?_
  intro fr24
  refine GS.seq ?_
  refine GS.region (env' := fun _ => [(0, .pointer (some ⟨a0b, 0, none⟩)), (2, .int .u32 (ixor .u32 (IntKind.u32.wrap ((IntKind.u32.wrap (y16 - (ixor .u32 (IntKind.u32.wrap ((IntKind.u32.wrap (y7 - y10)) - y16)) (IntKind.u32.wrap (y16 * 2 ^ 16))))) - y20)) (Int.fdiv y20 (2 ^ 3)))), (3, .int .u32 (ixor .u32 (IntKind.u32.wrap ((IntKind.u32.wrap (y7 - y10)) - y16)) (IntKind.u32.wrap (y16 * 2 ^ 16)))), (4, .int .u32 y20), (6, .pointer (some ⟨(fr24 1).x, 0, none⟩)), (22, .agg #[.int .i64 13, .int .i64 8, .int .i64 13, .int .i64 12, .int .i64 16, .int .i64 5, .int .i64 3, .int .i64 10, .int .i64 15]), (23, .int .i64 2)]) (mem' := fun _ => [(1, .cells a0b 72 [.int .u32 a0_0, .int .u32 a0_1, .int .u32 a0_2]), (4, .cells ((fr24 1).x) 96 [.int .i64 3, .int .i64 10, .int .i64 15])]) (RunsTo.mk [(7, { act := .load 4 0 0 [] })] [0, 2, 3, 4, 6, 22, 23] [1, 4] (fun _ => [(fr24 1).x = (fr24 1).x]) (fun _ => by kernel_rfl) (fun _ => ⟨rfl, trivial⟩)) ?_
  intro _
  refine GS.seq ?_
  refine bnd_elim hm (fun y26 e27 hm => ?_)
  refine GS.conv (env' := [(0, .pointer (some ⟨a0b, 0, none⟩)), (2, .int .u32 y26), (3, .int .u32 (ixor .u32 (IntKind.u32.wrap ((IntKind.u32.wrap (y7 - y10)) - y16)) (IntKind.u32.wrap (y16 * 2 ^ 16)))), (4, .int .u32 y20), (6, .pointer (some ⟨(fr24 1).x, 0, none⟩)), (22, .agg #[.int .i64 13, .int .i64 8, .int .i64 13, .int .i64 12, .int .i64 16, .int .i64 5, .int .i64 3, .int .i64 10, .int .i64 15]), (23, .int .i64 2)]) (congrArg (fun vhole : Int => ([(0, .pointer (some ⟨a0b, 0, none⟩)), (2, .int .u32 vhole), (3, .int .u32 (ixor .u32 (IntKind.u32.wrap ((IntKind.u32.wrap (y7 - y10)) - y16)) (IntKind.u32.wrap (y16 * 2 ^ 16)))), (4, .int .u32 y20), (6, .pointer (some ⟨(fr24 1).x, 0, none⟩)), (22, .agg #[.int .i64 13, .int .i64 8, .int .i64 13, .int .i64 12, .int .i64 16, .int .i64 5, .int .i64 3, .int .i64 10, .int .i64 15]), (23, .int .i64 2)] : List (Nat × Value))) (Option.some.inj e27)) rfl ?_
  refine GS.region (env' := fun _ => [(0, .pointer (some ⟨a0b, 0, none⟩)), (2, .int .u32 y26), (3, .int .u32 (ixor .u32 (IntKind.u32.wrap ((IntKind.u32.wrap ((ixor .u32 (IntKind.u32.wrap ((IntKind.u32.wrap (y7 - y10)) - y16)) (IntKind.u32.wrap (y16 * 2 ^ 16))) - y20)) - y26)) (IntKind.u32.wrap (y26 * 2 ^ 10)))), (4, .int .u32 y20), (6, .pointer (some ⟨(fr24 1).x, 0, none⟩)), (22, .agg #[.int .i64 13, .int .i64 8, .int .i64 13, .int .i64 12, .int .i64 16, .int .i64 5, .int .i64 3, .int .i64 10, .int .i64 15]), (23, .int .i64 2)]) (mem' := fun _ => [(1, .cells a0b 72 [.int .u32 a0_0, .int .u32 a0_1, .int .u32 a0_2]), (4, .cells ((fr24 1).x) 96 [.int .i64 3, .int .i64 10, .int .i64 15])]) (RunsTo.mk [(7, { act := .load 4 0 0 [] })] [0, 2, 3, 4, 6, 22, 23] [1, 4] (fun _ => [(fr24 1).x = (fr24 1).x]) (fun _ => by kernel_rfl) (fun _ => ⟨rfl, trivial⟩)) ?_
  intro _
  refine bnd_elim hm (fun y29 e30 hm => ?_)
  refine GS.conv (env' := [(0, .pointer (some ⟨a0b, 0, none⟩)), (2, .int .u32 y26), (3, .int .u32 y29), (4, .int .u32 y20), (6, .pointer (some ⟨(fr24 1).x, 0, none⟩)), (22, .agg #[.int .i64 13, .int .i64 8, .int .i64 13, .int .i64 12, .int .i64 16, .int .i64 5, .int .i64 3, .int .i64 10, .int .i64 15]), (23, .int .i64 2)]) (congrArg (fun vhole : Int => ([(0, .pointer (some ⟨a0b, 0, none⟩)), (2, .int .u32 y26), (3, .int .u32 vhole), (4, .int .u32 y20), (6, .pointer (some ⟨(fr24 1).x, 0, none⟩)), (22, .agg #[.int .i64 13, .int .i64 8, .int .i64 13, .int .i64 12, .int .i64 16, .int .i64 5, .int .i64 3, .int .i64 10, .int .i64 15]), (23, .int .i64 2)] : List (Nat × Value))) (Option.some.inj e30)) rfl ?_
  refine GS.region (env' := fun _ => [(0, .pointer (some ⟨a0b, 0, none⟩)), (2, .int .u32 y26), (3, .int .u32 y29), (4, .int .u32 (ixor .u32 (IntKind.u32.wrap ((IntKind.u32.wrap (y20 - y26)) - y29)) (Int.fdiv y29 (2 ^ 15)))), (22, .agg #[.int .i64 13, .int .i64 8, .int .i64 13, .int .i64 12, .int .i64 16, .int .i64 5, .int .i64 3, .int .i64 10, .int .i64 15]), (23, .int .i64 2)]) (mem' := fun _ => [(1, .cells a0b 72 [.int .u32 a0_0, .int .u32 a0_1, .int .u32 a0_2])]) (RunsTo.mk [(7, { act := .load 4 0 0 [] })] [0, 2, 3, 4, 22, 23] [1] (fun _ => [(fr24 1).x = (fr24 1).x]) (fun _ => by kernel_rfl) (fun _ => ⟨rfl, trivial⟩)) ?_
  intro _
  refine GS.inBlock ?_
  refine GS.region (env' := fun _ => [(0, .pointer (some ⟨a0b, 0, none⟩)), (2, .int .u32 y26), (3, .int .u32 y29), (4, .int .u32 (ixor .u32 (IntKind.u32.wrap ((IntKind.u32.wrap (y20 - y26)) - y29)) (Int.fdiv y29 (2 ^ 15)))), (22, .agg #[.int .i64 13, .int .i64 8, .int .i64 13, .int .i64 12, .int .i64 16, .int .i64 5, .int .i64 3, .int .i64 10, .int .i64 15]), (23, .int .i64 3)]) (mem' := fun _ => [(1, .cells a0b 72 [.int .u32 a0_0, .int .u32 a0_1, .int .u32 a0_2])]) (RunsTo.mk [] [0, 2, 3, 4, 22, 23] [1] (fun _ => []) (fun _ => by kernel_rfl) (fun _ => trivial)) ?_
  intro _
  refine GS.inLoop ?_
  refine GS.seq ?_
  refine GS.region (env' := fun _ => [(0, .pointer (some ⟨a0b, 0, none⟩)), (2, .int .u32 y26), (3, .int .u32 y29), (4, .int .u32 (ixor .u32 (IntKind.u32.wrap ((IntKind.u32.wrap (y20 - y26)) - y29)) (Int.fdiv y29 (2 ^ 15)))), (22, .agg #[.int .i64 13, .int .i64 8, .int .i64 13, .int .i64 12, .int .i64 16, .int .i64 5, .int .i64 3, .int .i64 10, .int .i64 15]), (23, .int .i64 3), (24, .bool false)]) (mem' := fun _ => [(1, .cells a0b 72 [.int .u32 a0_0, .int .u32 a0_1, .int .u32 a0_2])]) (RunsTo.mk [] [0, 2, 3, 4, 22, 23, 24] [1] (fun _ => []) (fun _ => by kernel_rfl) (fun _ => trivial)) ?_
  intro _
  refine GS.seq ?_
  refine GS.cond (t := false) rfl rfl (fun hf => by cases hf) (fun _ => ?_)
  refine GS.exit rfl ?_
  refine GS.region (env' := fun _ => []) (mem' := fun _ => [(1, .cells a0b 72 [.int .u32 y26, .int .u32 y29, .int .u32 (ixor .u32 (IntKind.u32.wrap ((IntKind.u32.wrap (y20 - y26)) - y29)) (Int.fdiv y29 (2 ^ 15)))])]) (RunsTo.mk [(6, { act := .store 0 0 [], key := some 1 })] [] [1] (fun _ => [a0b = a0b, ((.agg #[.int .u32 y26, .int .u32 y29, .int .u32 (ixor .u32 (IntKind.u32.wrap ((IntKind.u32.wrap (y20 - y26)) - y29)) (Int.fdiv y29 (2 ^ 15)))]) : Value).cells.toList.all Value.oneCell' = true]) (fun _ => by kernel_rfl) (fun _ => ⟨rfl, rfl, trivial⟩)) ?_
  intro _
  have hy := Option.some.inj hm
  subst hy
  refine GS.end_ (fn := Try.f37) [] [] [] rfl Try.func37 (by kernel_rfl) trivial (fun w' hs => ?_)
  exact ⟨(), rfl, hs.turnedG (ks := [1]) rfl rfl⟩

theorem w_digest_mix (F : Nat) (a0b : Nat) (a0 : Int) (a1b : Nat) (a1 : Int) (a2b : Nat) (a2 : Int) {y : Int × Int × Int} (hm : m_digest_mix F a0 a1 a2 = some y) : CallG Try.prog 41 #[.pointer (some ⟨a0b, 0, none⟩), .pointer (some ⟨a1b, 0, none⟩), .pointer (some ⟨a2b, 0, none⟩)] (X := Unit) (fun (_ : Unit) => .tuple #[]) [.cells a0b 28 [.int .u32 a0], .cells a1b 28 [.int .u32 a1], .cells a2b 28 [.int .u32 a2]] [] (fun (_ : Unit) => [.cells a0b 28 [.int .u32 y.1], .cells a1b 28 [.int .u32 y.2.1], .cells a2b 28 [.int .u32 y.2.2]]) := by
  intro w hg
  rw [m_digest_mix] at hm
  refine GS.start (S := mayT [.cells a0b 28 [.int .u32 a0], .cells a1b 28 [.int .u32 a1], .cells a2b 28 [.int .u32 a2]] []) (mem := [(1, .cells a0b 28 [.int .u32 a0]), (2, .cells a1b 28 [.int .u32 a1]), (3, .cells a2b 28 [.int .u32 a2])]) Try.func41 rfl Try.ntmps41 (Nat.le_of_ble_eq_true rfl) (hg.start rfl) ?_
  refine GS.conv (env' := [(0, .pointer (some ⟨a0b, 0, none⟩)), (1, .pointer (some ⟨a1b, 0, none⟩)), (2, .pointer (some ⟨a2b, 0, none⟩))]) rfl rfl ?_
  refine GS.seq ?_
  refine GS.region (env' := fun fr1 => [(0, .pointer (some ⟨a0b, 0, none⟩)), (1, .pointer (some ⟨a1b, 0, none⟩)), (2, .pointer (some ⟨a2b, 0, none⟩)), (6, .pointer (some ⟨(fr1 10).x, 0, none⟩))]) (mem' := fun fr1 => [(1, .cells a0b 28 [.int .u32 a0]), (2, .cells a1b 28 [.int .u32 a1]), (3, .cells a2b 28 [.int .u32 a2]), (4, .cells ((fr1 10).x) 72 [.int .u32 a0, .int .u32 a1, .int .u32 a2])]) (RunsTo.mkd [(2, { act := .load 1 0 0 [] }), (5, { act := .load 2 0 0 [] }), (8, { act := .load 3 0 0 [] }), (10, { act := .new .var, key := some 4 }), (11, { act := .store 0 0 [], key := some 4 })] [0, 1, 2, 6] [1, 2, 3, 4] (fun fr1 => [a0b = a0b, a1b = a1b, a2b = a2b, (fr1 10).x = (fr1 10).x, ((.agg #[.int .u32 a0, .int .u32 a1, .int .u32 a2]) : Value).cells.toList.all Value.oneCell' = true]) (by kernel_rfl) (by kernel_rfl) (fun fr1 => by kernel_rfl) (fun fr1 => ⟨rfl, rfl, rfl, rfl, rfl, trivial⟩)) ?_
  intro fr1
  refine GS.seq ?_
  refine bnd_elim hm (fun y3 e4 hm => ?_)
  refine GS.open_ ?_
  refine GR.callG (X := Unit) (i := 0) (g := 37) (args := #[.pointer (some ⟨(fr1 10).x, 0, none⟩)]) (v := fun (_ : Unit) => .tuple #[]) (own := [.cells ((fr1 10).x) 72 [.int .u32 a0, .int .u32 a1, .int .u32 a2]]) (ro := []) (es' := fun (_ : Unit) => [.cells ((fr1 10).x) 72 [.int .u32 y3.1, .int .u32 y3.2.1, .int .u32 y3.2.2]]) (mem' := fun (_ : Unit) => [(1, .cells a0b 28 [.int .u32 a0]), (2, .cells a1b 28 [.int .u32 a1]), (3, .cells a2b 28 [.int .u32 a2]), (4, .cells ((fr1 10).x) 72 [.int .u32 y3.1, .int .u32 y3.2.1, .int .u32 y3.2.2])]) (env' := fun (_ : Unit) => [(0, .pointer (some ⟨a0b, 0, none⟩)), (1, .pointer (some ⟨a1b, 0, none⟩)), (2, .pointer (some ⟨a2b, 0, none⟩)), (6, .pointer (some ⟨(fr1 10).x, 0, none⟩))]) [4] [4] [0, 1, 2, 6] [1, 2, 3, 4] false (by kernel_rfl) (by kernel_rfl) (by kernel_rfl) (by kernel_rfl) (by kernel_rfl) (fun _ => rfl) (fun _ _ => rfl) trivial (by rintro _; kernel_rfl) (by rintro _; kernel_rfl) (w___digest_trio__mix F (fr1 10).x a0 a1 a2 e4) ?_
  rintro _
  refine GR.done (Nat.le_of_ble_eq_true (by kernel_rfl)) ?_
  refine GS.region (env' := fun _ => []) (mem' := fun _ => [(1, .cells a0b 28 [.int .u32 y3.1]), (2, .cells a1b 28 [.int .u32 y3.2.1]), (3, .cells a2b 28 [.int .u32 y3.2.2])]) (RunsTo.mk [(4, { act := .load 4 0 0 [] }), (6, { act := .load 4 0 0 [] }), (8, { act := .load 4 0 0 [] }), (10, { act := .store 0 0 [], key := some 1 }), (12, { act := .store 0 0 [], key := some 2 }), (14, { act := .store 0 0 [], key := some 3 })] [] [1, 2, 3] (fun _ => [(fr1 10).x = (fr1 10).x, (fr1 10).x = (fr1 10).x, (fr1 10).x = (fr1 10).x, a0b = a0b, ((.int .u32 y3.1) : Value).cells.toList.all Value.oneCell' = true, a1b = a1b, ((.int .u32 y3.2.1) : Value).cells.toList.all Value.oneCell' = true, a2b = a2b, ((.int .u32 y3.2.2) : Value).cells.toList.all Value.oneCell' = true]) (fun _ => by kernel_rfl) (fun _ => ⟨rfl, rfl, rfl, rfl, rfl, rfl, rfl, rfl, rfl, trivial⟩)) ?_
  intro _
  have hy := Option.some.inj hm
  subst hy
  refine GS.end_ (fn := Try.f41) [] [] [] rfl Try.func41 (by kernel_rfl) trivial (fun w' hs => ?_)
  exact ⟨(), rfl, hs.turnedG (ks := [1, 2, 3]) rfl rfl⟩

theorem w___digest_Engine__Hash1 (F : Nat) (a0b : Nat) (a0 : S_digest_Engine) (a1 : Int) {y : Int} (hm : m___digest_Engine__Hash1 F a0 a1 = some y) : CallG Try.prog 21 #[.pointer (some ⟨a0b, 0, none⟩), .int .u32 a1] (X := Unit) (fun (_ : Unit) => .int .u32 y) [] [.rd (some ⟨a0b, 0, none⟩) (List.length (([.int .u32 a0.once.done.v, .int .i32 a0.once.m.mu.state, .int .u32 a0.once.m.mu.sema] : List Value) ++ (aU32 a0.table ++ (([.int .i64 a0.calls.v] : List Value))))) ([([.int .u32 a0.once.done.v, .int .i32 a0.once.m.mu.state, .int .u32 a0.once.m.mu.sema] : List Value) ++ (aU32 a0.table ++ (([.int .i64 a0.calls.v] : List Value)))] : List (List Value))] (fun (_ : Unit) => []) := by
  intro w hg
  rw [m___digest_Engine__Hash1] at hm
  refine GS.start (S := mayT [] [.rd (some ⟨a0b, 0, none⟩) (List.length (([.int .u32 a0.once.done.v, .int .i32 a0.once.m.mu.state, .int .u32 a0.once.m.mu.sema] : List Value) ++ (aU32 a0.table ++ (([.int .i64 a0.calls.v] : List Value))))) ([([.int .u32 a0.once.done.v, .int .i32 a0.once.m.mu.state, .int .u32 a0.once.m.mu.sema] : List Value) ++ (aU32 a0.table ++ (([.int .i64 a0.calls.v] : List Value)))] : List (List Value))]) (mem := [(1, .rd (some ⟨a0b, 0, none⟩) (List.length (([.int .u32 a0.once.done.v, .int .i32 a0.once.m.mu.state, .int .u32 a0.once.m.mu.sema] : List Value) ++ (aU32 a0.table ++ (([.int .i64 a0.calls.v] : List Value))))) ([([.int .u32 a0.once.done.v, .int .i32 a0.once.m.mu.state, .int .u32 a0.once.m.mu.sema] : List Value) ++ (aU32 a0.table ++ (([.int .i64 a0.calls.v] : List Value)))] : List (List Value)))]) Try.func21 rfl Try.ntmps21 (Nat.le_of_ble_eq_true rfl) (hg.start rfl) ?_
  refine GS.conv (env' := [(0, .pointer (some ⟨a0b, 0, none⟩)), (1, .int .u32 a1)]) rfl rfl ?_
  refine GS.seq ?_
  refine GS.region (env' := fun fr1 => [(0, .pointer (some ⟨a0b, 0, none⟩)), (3, .pointer (some ⟨(fr1 0).x, 0, none⟩))]) (mem' := fun fr1 => [(1, .rd (some ⟨a0b, 0, none⟩) (List.length (([.int .u32 a0.once.done.v, .int .i32 a0.once.m.mu.state, .int .u32 a0.once.m.mu.sema] : List Value) ++ (aU32 a0.table ++ (([.int .i64 a0.calls.v] : List Value))))) ([([.int .u32 a0.once.done.v, .int .i32 a0.once.m.mu.state, .int .u32 a0.once.m.mu.sema] : List Value) ++ (aU32 a0.table ++ (([.int .i64 a0.calls.v] : List Value)))] : List (List Value))), (2, .cells ((fr1 0).x) 28 [.int .u32 a1])]) (RunsTo.mk [(0, { act := .new .var, key := some 2 })] [0, 3] [1, 2] (fun fr1 => []) (fun fr1 => by kernel_rfl) (fun fr1 => trivial)) ?_
  intro fr1
  refine GS.seq ?_
  refine GS.seq ?_
  refine GS.region (env' := fun _ => [(3, .pointer (some ⟨(fr1 0).x, 0, none⟩)), (10, .bool false)]) (mem' := fun _ => [(2, .cells ((fr1 0).x) 28 [.int .u32 a1])]) (RunsTo.mk [] [3, 10] [2] (fun _ => []) (fun _ => by kernel_rfl) (fun _ => trivial)) ?_
  intro _
  refine GS.cond (t := false) rfl rfl (fun hf => by cases hf) (fun _ => ?_)
  refine GS.skip ?_
  refine GS.seq ?_
  refine GS.region (env' := fun fr3 => [(3, .pointer (some ⟨(fr1 0).x, 0, none⟩)), (5, .pointer (some ⟨(fr3 3).x, 0, none⟩)), (6, .pointer (some ⟨(fr3 4).x, 0, none⟩))]) (mem' := fun fr3 => [(2, .cells ((fr1 0).x) 28 [.int .u32 a1]), (3, .cells ((fr3 3).x) 28 [.int .u32 (ixor .u32 1315423911 a1)]), (4, .cells ((fr3 4).x) 28 [.int .u32 a1])]) (RunsTo.mk [(0, { act := .load 2 0 0 [] }), (2, { act := .load 2 0 0 [] }), (3, { act := .new .var, key := some 3 }), (4, { act := .new .var, key := some 4 }), (5, { act := .store 0 0 [], key := some 3 }), (6, { act := .store 0 0 [], key := some 4 })] [3, 5, 6] [2, 3, 4] (fun fr3 => [(fr1 0).x = (fr1 0).x, (fr1 0).x = (fr1 0).x, (fr3 3).x = (fr3 3).x, ((.int .u32 (ixor .u32 1315423911 a1)) : Value).cells.toList.all Value.oneCell' = true, (fr3 4).x = (fr3 4).x, ((.int .u32 a1) : Value).cells.toList.all Value.oneCell' = true]) (fun fr3 => by kernel_rfl) (fun fr3 => ⟨rfl, rfl, rfl, rfl, rfl, rfl, trivial⟩)) ?_
  intro fr3
  refine GS.seq ?_
  refine GS.region (env' := fun fr4 => [(3, .pointer (some ⟨(fr1 0).x, 0, none⟩)), (5, .pointer (some ⟨(fr3 3).x, 0, none⟩)), (6, .pointer (some ⟨(fr3 4).x, 0, none⟩)), (7, .pointer (some ⟨(fr4 0).x, 0, none⟩)), (8, .pointer (some ⟨(fr4 1).x, 0, none⟩))]) (mem' := fun fr4 => [(2, .cells ((fr1 0).x) 28 [.int .u32 a1]), (3, .cells ((fr3 3).x) 28 [.int .u32 (ixor .u32 1315423911 a1)]), (4, .cells ((fr3 4).x) 28 [.int .u32 a1]), (5, .cells ((fr4 0).x) 28 [.int .u32 231232]), (6, .cells ((fr4 1).x) 28 [.int .u32 1232])]) (RunsTo.mk [(0, { act := .new .var, key := some 5 }), (1, { act := .new .var, key := some 6 }), (2, { act := .store 0 0 [], key := some 5 }), (3, { act := .store 0 0 [], key := some 6 })] [3, 5, 6, 7, 8] [2, 3, 4, 5, 6] (fun fr4 => [(fr4 0).x = (fr4 0).x, ((.int .u32 231232) : Value).cells.toList.all Value.oneCell' = true, (fr4 1).x = (fr4 1).x, ((.int .u32 1232) : Value).cells.toList.all Value.oneCell' = true]) (fun fr4 => by kernel_rfl) (fun fr4 => ⟨rfl, rfl, rfl, rfl, trivial⟩)) ?_
  intro fr4
  refine GS.seq ?_
  refine bnd_elim hm (fun y6 e7 hm => ?_)
  refine GS.open_ ?_
  refine GR.callG (X := Unit) (i := 0) (g := 41) (args := #[.pointer (some ⟨(fr3 4).x, 0, none⟩), .pointer (some ⟨(fr4 0).x, 0, none⟩), .pointer (some ⟨(fr3 3).x, 0, none⟩)]) (v := fun (_ : Unit) => .tuple #[]) (own := [.cells ((fr3 4).x) 28 [.int .u32 a1], .cells ((fr4 0).x) 28 [.int .u32 231232], .cells ((fr3 3).x) 28 [.int .u32 (ixor .u32 1315423911 a1)]]) (ro := []) (es' := fun (_ : Unit) => [.cells ((fr3 4).x) 28 [.int .u32 y6.1], .cells ((fr4 0).x) 28 [.int .u32 y6.2.1], .cells ((fr3 3).x) 28 [.int .u32 y6.2.2]]) (mem' := fun (_ : Unit) => [(2, .cells ((fr1 0).x) 28 [.int .u32 a1]), (3, .cells ((fr3 3).x) 28 [.int .u32 y6.2.2]), (4, .cells ((fr3 4).x) 28 [.int .u32 y6.1]), (5, .cells ((fr4 0).x) 28 [.int .u32 y6.2.1]), (6, .cells ((fr4 1).x) 28 [.int .u32 1232])]) (env' := fun (_ : Unit) => [(3, .pointer (some ⟨(fr1 0).x, 0, none⟩)), (5, .pointer (some ⟨(fr3 3).x, 0, none⟩)), (8, .pointer (some ⟨(fr4 1).x, 0, none⟩))]) [4, 5, 3] [4, 5, 3] [3, 5, 8] [2, 3, 4, 5, 6] false (by kernel_rfl) (by kernel_rfl) (by kernel_rfl) (by kernel_rfl) (by kernel_rfl) (fun _ => rfl) (fun _ _ => rfl) trivial (by rintro _; kernel_rfl) (by rintro _; kernel_rfl) (w_digest_mix F (fr3 4).x a1 (fr4 0).x 231232 (fr3 3).x (ixor .u32 1315423911 a1) e7) ?_
  rintro _
  refine GR.done (Nat.le_of_ble_eq_true (by kernel_rfl)) ?_
  refine GS.seq ?_
  refine bnd_elim hm (fun y10 e11 hm => ?_)
  refine GS.open_ ?_
  refine GR.callG (X := Unit) (i := 0) (g := 41) (args := #[.pointer (some ⟨(fr4 1).x, 0, none⟩), .pointer (some ⟨(fr1 0).x, 0, none⟩), .pointer (some ⟨(fr3 3).x, 0, none⟩)]) (v := fun (_ : Unit) => .tuple #[]) (own := [.cells ((fr4 1).x) 28 [.int .u32 1232], .cells ((fr1 0).x) 28 [.int .u32 a1], .cells ((fr3 3).x) 28 [.int .u32 y6.2.2]]) (ro := []) (es' := fun (_ : Unit) => [.cells ((fr4 1).x) 28 [.int .u32 y10.1], .cells ((fr1 0).x) 28 [.int .u32 y10.2.1], .cells ((fr3 3).x) 28 [.int .u32 y10.2.2]]) (mem' := fun (_ : Unit) => [(2, .cells ((fr1 0).x) 28 [.int .u32 y10.2.1]), (3, .cells ((fr3 3).x) 28 [.int .u32 y10.2.2]), (4, .cells ((fr3 4).x) 28 [.int .u32 y6.1]), (5, .cells ((fr4 0).x) 28 [.int .u32 y6.2.1]), (6, .cells ((fr4 1).x) 28 [.int .u32 y10.1])]) (env' := fun (_ : Unit) => [(5, .pointer (some ⟨(fr3 3).x, 0, none⟩))]) [6, 2, 3] [6, 2, 3] [5] [2, 3, 4, 5, 6] false (by kernel_rfl) (by kernel_rfl) (by kernel_rfl) (by kernel_rfl) (by kernel_rfl) (fun _ => rfl) (fun _ _ => rfl) trivial (by rintro _; kernel_rfl) (by rintro _; kernel_rfl) (w_digest_mix F (fr4 1).x 1232 (fr1 0).x a1 (fr3 3).x y6.2.2 e11) ?_
  rintro _
  refine GR.done (Nat.le_of_ble_eq_true (by kernel_rfl)) ?_
  refine GS.seq ?_
  refine GS.region (env' := fun _ => [(4, .int .u32 y10.2.2)]) (mem' := fun _ => []) (RunsTo.mk [(0, { act := .load 3 0 0 [] })] [4] [] (fun _ => [(fr3 3).x = (fr3 3).x]) (fun _ => by kernel_rfl) (fun _ => ⟨rfl, trivial⟩)) ?_
  intro _
  have hy := Option.some.inj hm
  subst hy
  refine GS.ret (fn := Try.f21) [0] [.int .u32 y10.2.2] [] rfl Try.func21 (by kernel_rfl) trivial (fun w' hs => ?_)
  exact ⟨(), rfl, hs.turnedG (ks := []) rfl rfl⟩

theorem w_tholeref01_Mix (F : Nat) (a0 : S_tholeref01_Three) {y : S_tholeref01_Three} (hm : m_tholeref01_Mix F a0 = some y) : CallG Try.prog 38 #[.agg #[.int .u32 a0.A, .int .u32 a0.B, .int .u32 a0.C]] (X := Unit) (fun (_ : Unit) => .agg #[.int .u32 y.A, .int .u32 y.B, .int .u32 y.C]) [] [] (fun (_ : Unit) => []) := by
  intro w hg
  rw [m_tholeref01_Mix] at hm
  refine GS.start (S := mayT [] []) (mem := []) Try.func38 rfl Try.ntmps38 (Nat.le_of_ble_eq_true rfl) (hg.start rfl) ?_
  refine GS.conv (env' := [(0, .agg #[.int .u32 a0.A, .int .u32 a0.B, .int .u32 a0.C])]) rfl rfl ?_
  refine GS.seq ?_
  refine GS.region (env' := fun fr1 => [(1, .pointer (some ⟨(fr1 0).x, 0, none⟩)), (2, .pointer (some ⟨(fr1 1).x, 0, none⟩))]) (mem' := fun fr1 => [(1, .cells ((fr1 0).x) 74 [.int .u32 a0.A, .int .u32 a0.B, .int .u32 a0.C]), (2, .cells ((fr1 1).x) 74 [.int .u32 0, .int .u32 0, .int .u32 0])]) (RunsTo.mk [(0, { act := .new .var, key := some 1 }), (1, { act := .new .var, key := some 2 })] [1, 2] [1, 2] (fun fr1 => []) (fun fr1 => by kernel_rfl) (fun fr1 => trivial)) ?_
  intro fr1
  refine GS.seq ?_
  refine GS.region (env' := fun _ => [(2, .pointer (some ⟨(fr1 1).x, 0, none⟩)), (3, .int .u32 a0.A), (4, .int .u32 a0.B), (5, .int .u32 a0.C)]) (mem' := fun _ => [(2, .cells ((fr1 1).x) 74 [.int .u32 0, .int .u32 0, .int .u32 0])]) (RunsTo.mkd [(1, { act := .load 1 0 0 [] }), (3, { act := .load 1 0 0 [] }), (5, { act := .load 1 0 0 [] })] [2, 3, 4, 5] [2] (fun _ => [(fr1 0).x = (fr1 0).x, (fr1 0).x = (fr1 0).x, (fr1 0).x = (fr1 0).x]) (by kernel_rfl) (by kernel_rfl) (fun _ => by kernel_rfl) (fun _ => ⟨rfl, rfl, rfl, trivial⟩)) ?_
  intro _
  refine GS.seq ?_
  refine GS.seq ?_
  refine GS.region (env' := fun _ => [(2, .pointer (some ⟨(fr1 1).x, 0, none⟩)), (3, .int .u32 a0.A), (4, .int .u32 a0.B), (5, .int .u32 a0.C), (17, .agg #[.int .u64 13, .int .u64 8, .int .u64 13, .int .u64 12, .int .u64 16, .int .u64 5, .int .u64 3, .int .u64 10, .int .u64 15]), (18, .int .i64 0)]) (mem' := fun _ => [(2, .cells ((fr1 1).x) 74 [.int .u32 0, .int .u32 0, .int .u32 0])]) (RunsTo.mk [] [2, 3, 4, 5, 17, 18] [2] (fun _ => []) (fun _ => by kernel_rfl) (fun _ => trivial)) ?_
  intro _
  refine GS.block ?_
  refine GS.loop ?_
  refine GS.seq ?_
  refine GS.region (env' := fun _ => [(2, .pointer (some ⟨(fr1 1).x, 0, none⟩)), (3, .int .u32 a0.A), (4, .int .u32 a0.B), (5, .int .u32 a0.C), (17, .agg #[.int .u64 13, .int .u64 8, .int .u64 13, .int .u64 12, .int .u64 16, .int .u64 5, .int .u64 3, .int .u64 10, .int .u64 15]), (18, .int .i64 0), (19, .bool true)]) (mem' := fun _ => [(2, .cells ((fr1 1).x) 74 [.int .u32 0, .int .u32 0, .int .u32 0])]) (RunsTo.mk [] [2, 3, 4, 5, 17, 18, 19] [2] (fun _ => []) (fun _ => by kernel_rfl) (fun _ => trivial)) ?_
  intro _
  refine GS.seq ?_
  refine GS.cond (t := true) rfl rfl (fun _ => ?_) (fun hf => by cases hf)
  refine GS.skip ?_
  refine GS.seq ?_
  refine GS.block ?_
  refine GS.seq ?_
  refine GS.region (env' := fun fr5 => [(2, .pointer (some ⟨(fr1 1).x, 0, none⟩)), (3, .int .u32 a0.A), (4, .int .u32 a0.B), (5, .int .u32 a0.C), (7, .pointer (some ⟨(fr5 1).x, 0, none⟩)), (17, .agg #[.int .u64 13, .int .u64 8, .int .u64 13, .int .u64 12, .int .u64 16, .int .u64 5, .int .u64 3, .int .u64 10, .int .u64 15]), (18, .int .i64 0)]) (mem' := fun fr5 => [(2, .cells ((fr1 1).x) 74 [.int .u32 0, .int .u32 0, .int .u32 0]), (3, .cells ((fr5 1).x) 98 [.int .u64 13, .int .u64 8, .int .u64 13])]) (RunsTo.mk [(1, { act := .new .var, key := some 3 }), (2, { act := .store 0 0 [], key := some 3 })] [2, 3, 4, 5, 7, 17, 18] [2, 3] (fun fr5 => [(fr5 1).x = (fr5 1).x, ((.agg #[.int .u64 13, .int .u64 8, .int .u64 13]) : Value).cells.toList.all Value.oneCell' = true]) (fun fr5 => by kernel_rfl) (fun fr5 => ⟨rfl, rfl, trivial⟩)) ?_
  intro fr5
  refine GS.seq ?_
  refine GS.region (env' := fun _ => [(2, .pointer (some ⟨(fr1 1).x, 0, none⟩)), (3, .int .u32 (ixor .u32 (IntKind.u32.wrap ((IntKind.u32.wrap (a0.A - a0.B)) - a0.C)) (Int.fdiv a0.C (2 ^ 13)))), (4, .int .u32 a0.B), (5, .int .u32 a0.C), (7, .pointer (some ⟨(fr5 1).x, 0, none⟩)), (17, .agg #[.int .u64 13, .int .u64 8, .int .u64 13, .int .u64 12, .int .u64 16, .int .u64 5, .int .u64 3, .int .u64 10, .int .u64 15]), (18, .int .i64 0)]) (mem' := fun _ => [(2, .cells ((fr1 1).x) 74 [.int .u32 0, .int .u32 0, .int .u32 0]), (3, .cells ((fr5 1).x) 98 [.int .u64 13, .int .u64 8, .int .u64 13])]) (RunsTo.mk [(7, { act := .load 3 0 0 [] })] [2, 3, 4, 5, 7, 17, 18] [2, 3] (fun _ => [(fr5 1).x = (fr5 1).x]) (fun _ => by kernel_rfl) (fun _ => ⟨rfl, trivial⟩)) ?_
  intro _
  refine GS.seq ?_
  refine GS.region (env' := fun _ => [(2, .pointer (some ⟨(fr1 1).x, 0, none⟩)), (3, .int .u32 (ixor .u32 (IntKind.u32.wrap ((IntKind.u32.wrap (a0.A - a0.B)) - a0.C)) (Int.fdiv a0.C (2 ^ 13)))), (4, .int .u32 (ixor .u32 (IntKind.u32.wrap ((IntKind.u32.wrap (a0.B - a0.C)) - (ixor .u32 (IntKind.u32.wrap ((IntKind.u32.wrap (a0.A - a0.B)) - a0.C)) (Int.fdiv a0.C (2 ^ 13))))) (IntKind.u32.wrap ((ixor .u32 (IntKind.u32.wrap ((IntKind.u32.wrap (a0.A - a0.B)) - a0.C)) (Int.fdiv a0.C (2 ^ 13))) * 2 ^ 8)))), (5, .int .u32 a0.C), (7, .pointer (some ⟨(fr5 1).x, 0, none⟩)), (17, .agg #[.int .u64 13, .int .u64 8, .int .u64 13, .int .u64 12, .int .u64 16, .int .u64 5, .int .u64 3, .int .u64 10, .int .u64 15]), (18, .int .i64 0)]) (mem' := fun _ => [(2, .cells ((fr1 1).x) 74 [.int .u32 0, .int .u32 0, .int .u32 0]), (3, .cells ((fr5 1).x) 98 [.int .u64 13, .int .u64 8, .int .u64 13])]) (RunsTo.mk [(7, { act := .load 3 0 0 [] })] [2, 3, 4, 5, 7, 17, 18] [2, 3] (fun _ => [(fr5 1).x = (fr5 1).x]) (fun _ => by kernel_rfl) (fun _ => ⟨rfl, trivial⟩)) ?_
  intro _
  refine bnd_elim hm (fun y8 e9 hm => ?_)
  refine GS.conv (env' := [(2, .pointer (some ⟨(fr1 1).x, 0, none⟩)), (3, .int .u32 (ixor .u32 (IntKind.u32.wrap ((IntKind.u32.wrap (a0.A - a0.B)) - a0.C)) (Int.fdiv a0.C (2 ^ 13)))), (4, .int .u32 y8), (5, .int .u32 a0.C), (7, .pointer (some ⟨(fr5 1).x, 0, none⟩)), (17, .agg #[.int .u64 13, .int .u64 8, .int .u64 13, .int .u64 12, .int .u64 16, .int .u64 5, .int .u64 3, .int .u64 10, .int .u64 15]), (18, .int .i64 0)]) (congrArg (fun vhole : Int => ([(2, .pointer (some ⟨(fr1 1).x, 0, none⟩)), (3, .int .u32 (ixor .u32 (IntKind.u32.wrap ((IntKind.u32.wrap (a0.A - a0.B)) - a0.C)) (Int.fdiv a0.C (2 ^ 13)))), (4, .int .u32 vhole), (5, .int .u32 a0.C), (7, .pointer (some ⟨(fr5 1).x, 0, none⟩)), (17, .agg #[.int .u64 13, .int .u64 8, .int .u64 13, .int .u64 12, .int .u64 16, .int .u64 5, .int .u64 3, .int .u64 10, .int .u64 15]), (18, .int .i64 0)] : List (Nat × Value))) (Option.some.inj e9)) rfl ?_
  refine GS.region (env' := fun _ => [(2, .pointer (some ⟨(fr1 1).x, 0, none⟩)), (3, .int .u32 (ixor .u32 (IntKind.u32.wrap ((IntKind.u32.wrap (a0.A - a0.B)) - a0.C)) (Int.fdiv a0.C (2 ^ 13)))), (4, .int .u32 y8), (5, .int .u32 (ixor .u32 (IntKind.u32.wrap ((IntKind.u32.wrap (a0.C - (ixor .u32 (IntKind.u32.wrap ((IntKind.u32.wrap (a0.A - a0.B)) - a0.C)) (Int.fdiv a0.C (2 ^ 13))))) - y8)) (Int.fdiv y8 (2 ^ 13)))), (17, .agg #[.int .u64 13, .int .u64 8, .int .u64 13, .int .u64 12, .int .u64 16, .int .u64 5, .int .u64 3, .int .u64 10, .int .u64 15]), (18, .int .i64 0)]) (mem' := fun _ => [(2, .cells ((fr1 1).x) 74 [.int .u32 0, .int .u32 0, .int .u32 0])]) (RunsTo.mk [(7, { act := .load 3 0 0 [] })] [2, 3, 4, 5, 17, 18] [2] (fun _ => [(fr5 1).x = (fr5 1).x]) (fun _ => by kernel_rfl) (fun _ => ⟨rfl, trivial⟩)) ?_
  intro _
  refine GS.inBlock ?_
  refine bnd_elim hm (fun y11 e12 hm => ?_)
  refine GS.conv (env' := [(2, .pointer (some ⟨(fr1 1).x, 0, none⟩)), (3, .int .u32 (ixor .u32 (IntKind.u32.wrap ((IntKind.u32.wrap (a0.A - a0.B)) - a0.C)) (Int.fdiv a0.C (2 ^ 13)))), (4, .int .u32 y8), (5, .int .u32 y11), (17, .agg #[.int .u64 13, .int .u64 8, .int .u64 13, .int .u64 12, .int .u64 16, .int .u64 5, .int .u64 3, .int .u64 10, .int .u64 15]), (18, .int .i64 0)]) (congrArg (fun vhole : Int => ([(2, .pointer (some ⟨(fr1 1).x, 0, none⟩)), (3, .int .u32 (ixor .u32 (IntKind.u32.wrap ((IntKind.u32.wrap (a0.A - a0.B)) - a0.C)) (Int.fdiv a0.C (2 ^ 13)))), (4, .int .u32 y8), (5, .int .u32 vhole), (17, .agg #[.int .u64 13, .int .u64 8, .int .u64 13, .int .u64 12, .int .u64 16, .int .u64 5, .int .u64 3, .int .u64 10, .int .u64 15]), (18, .int .i64 0)] : List (Nat × Value))) (Option.some.inj e12)) rfl ?_
  refine GS.region (env' := fun _ => [(2, .pointer (some ⟨(fr1 1).x, 0, none⟩)), (3, .int .u32 (ixor .u32 (IntKind.u32.wrap ((IntKind.u32.wrap (a0.A - a0.B)) - a0.C)) (Int.fdiv a0.C (2 ^ 13)))), (4, .int .u32 y8), (5, .int .u32 y11), (17, .agg #[.int .u64 13, .int .u64 8, .int .u64 13, .int .u64 12, .int .u64 16, .int .u64 5, .int .u64 3, .int .u64 10, .int .u64 15]), (18, .int .i64 1)]) (mem' := fun _ => [(2, .cells ((fr1 1).x) 74 [.int .u32 0, .int .u32 0, .int .u32 0])]) (RunsTo.mk [] [2, 3, 4, 5, 17, 18] [2] (fun _ => []) (fun _ => by kernel_rfl) (fun _ => trivial)) ?_
  intro _
  refine GS.inLoop ?_
  refine GS.seq ?_
  refine GS.region (env' := fun _ => [(2, .pointer (some ⟨(fr1 1).x, 0, none⟩)), (3, .int .u32 (ixor .u32 (IntKind.u32.wrap ((IntKind.u32.wrap (a0.A - a0.B)) - a0.C)) (Int.fdiv a0.C (2 ^ 13)))), (4, .int .u32 y8), (5, .int .u32 y11), (17, .agg #[.int .u64 13, .int .u64 8, .int .u64 13, .int .u64 12, .int .u64 16, .int .u64 5, .int .u64 3, .int .u64 10, .int .u64 15]), (18, .int .i64 1), (19, .bool true)]) (mem' := fun _ => [(2, .cells ((fr1 1).x) 74 [.int .u32 0, .int .u32 0, .int .u32 0])]) (RunsTo.mk [] [2, 3, 4, 5, 17, 18, 19] [2] (fun _ => []) (fun _ => by kernel_rfl) (fun _ => trivial)) ?_
  intro _
  refine GS.seq ?_
  refine GS.cond (t := true) rfl rfl (fun _ => ?_) (fun hf => by cases hf)
  refine GS.skip ?_
  refine GS.seq ?_
  refine GS.block ?_
  refine GS.seq ?_
  refine GS.region (env' := fun fr15 => [(2, .pointer (some ⟨(fr1 1).x, 0, none⟩)), (3, .int .u32 (ixor .u32 (IntKind.u32.wrap ((IntKind.u32.wrap (a0.A - a0.B)) - a0.C)) (Int.fdiv a0.C (2 ^ 13)))), (4, .int .u32 y8), (5, .int .u32 y11), (7, .pointer (some ⟨(fr15 1).x, 0, none⟩)), (17, .agg #[.int .u64 13, .int .u64 8, .int .u64 13, .int .u64 12, .int .u64 16, .int .u64 5, .int .u64 3, .int .u64 10, .int .u64 15]), (18, .int .i64 1)]) (mem' := fun fr15 => [(2, .cells ((fr1 1).x) 74 [.int .u32 0, .int .u32 0, .int .u32 0]), (4, .cells ((fr15 1).x) 98 [.int .u64 12, .int .u64 16, .int .u64 5])]) (RunsTo.mk [(1, { act := .new .var, key := some 4 }), (2, { act := .store 0 0 [], key := some 4 })] [2, 3, 4, 5, 7, 17, 18] [2, 4] (fun fr15 => [(fr15 1).x = (fr15 1).x, ((.agg #[.int .u64 12, .int .u64 16, .int .u64 5]) : Value).cells.toList.all Value.oneCell' = true]) (fun fr15 => by kernel_rfl) (fun fr15 => ⟨rfl, rfl, trivial⟩)) ?_
  intro fr15
  refine GS.seq ?_
  refine GS.region (env' := fun _ => [(2, .pointer (some ⟨(fr1 1).x, 0, none⟩)), (3, .int .u32 (ixor .u32 (IntKind.u32.wrap ((IntKind.u32.wrap ((ixor .u32 (IntKind.u32.wrap ((IntKind.u32.wrap (a0.A - a0.B)) - a0.C)) (Int.fdiv a0.C (2 ^ 13))) - y8)) - y11)) (Int.fdiv y11 (2 ^ 12)))), (4, .int .u32 y8), (5, .int .u32 y11), (7, .pointer (some ⟨(fr15 1).x, 0, none⟩)), (17, .agg #[.int .u64 13, .int .u64 8, .int .u64 13, .int .u64 12, .int .u64 16, .int .u64 5, .int .u64 3, .int .u64 10, .int .u64 15]), (18, .int .i64 1)]) (mem' := fun _ => [(2, .cells ((fr1 1).x) 74 [.int .u32 0, .int .u32 0, .int .u32 0]), (4, .cells ((fr15 1).x) 98 [.int .u64 12, .int .u64 16, .int .u64 5])]) (RunsTo.mk [(7, { act := .load 4 0 0 [] })] [2, 3, 4, 5, 7, 17, 18] [2, 4] (fun _ => [(fr15 1).x = (fr15 1).x]) (fun _ => by kernel_rfl) (fun _ => ⟨rfl, trivial⟩)) ?_
  intro _
  refine GS.seq ?_
  refine bnd_elim hm (fun y17 e18 hm => ?_)
  refine GS.conv (env' := [(2, .pointer (some ⟨(fr1 1).x, 0, none⟩)), (3, .int .u32 y17), (4, .int .u32 y8), (5, .int .u32 y11), (7, .pointer (some ⟨(fr15 1).x, 0, none⟩)), (17, .agg #[.int .u64 13, .int .u64 8, .int .u64 13, .int .u64 12, .int .u64 16, .int .u64 5, .int .u64 3, .int .u64 10, .int .u64 15]), (18, .int .i64 1)]) (congrArg (fun vhole : Int => ([(2, .pointer (some ⟨(fr1 1).x, 0, none⟩)), (3, .int .u32 vhole), (4, .int .u32 y8), (5, .int .u32 y11), (7, .pointer (some ⟨(fr15 1).x, 0, none⟩)), (17, .agg #[.int .u64 13, .int .u64 8, .int .u64 13, .int .u64 12, .int .u64 16, .int .u64 5, .int .u64 3, .int .u64 10, .int .u64 15]), (18, .int .i64 1)] : List (Nat × Value))) (Option.some.inj e18)) rfl ?_
  refine GS.region (env' := fun _ => [(2, .pointer (some ⟨(fr1 1).x, 0, none⟩)), (3, .int .u32 y17), (4, .int .u32 (ixor .u32 (IntKind.u32.wrap ((IntKind.u32.wrap (y8 - y11)) - y17)) (IntKind.u32.wrap (y17 * 2 ^ 16)))), (5, .int .u32 y11), (7, .pointer (some ⟨(fr15 1).x, 0, none⟩)), (17, .agg #[.int .u64 13, .int .u64 8, .int .u64 13, .int .u64 12, .int .u64 16, .int .u64 5, .int .u64 3, .int .u64 10, .int .u64 15]), (18, .int .i64 1)]) (mem' := fun _ => [(2, .cells ((fr1 1).x) 74 [.int .u32 0, .int .u32 0, .int .u32 0]), (4, .cells ((fr15 1).x) 98 [.int .u64 12, .int .u64 16, .int .u64 5])]) (RunsTo.mk [(7, { act := .load 4 0 0 [] })] [2, 3, 4, 5, 7, 17, 18] [2, 4] (fun _ => [(fr15 1).x = (fr15 1).x]) (fun _ => by kernel_rfl) (fun _ => ⟨rfl, trivial⟩)) ?_
  intro _
  refine GS.region (env' := fun _ => [(2, .pointer (some ⟨(fr1 1).x, 0, none⟩)), (3, .int .u32 y17), (4, .int .u32 (ixor .u32 (IntKind.u32.wrap ((IntKind.u32.wrap (y8 - y11)) - y17)) (IntKind.u32.wrap (y17 * 2 ^ 16)))), (5, .int .u32 (ixor .u32 (IntKind.u32.wrap ((IntKind.u32.wrap (y11 - y17)) - (ixor .u32 (IntKind.u32.wrap ((IntKind.u32.wrap (y8 - y11)) - y17)) (IntKind.u32.wrap (y17 * 2 ^ 16))))) (Int.fdiv (ixor .u32 (IntKind.u32.wrap ((IntKind.u32.wrap (y8 - y11)) - y17)) (IntKind.u32.wrap (y17 * 2 ^ 16))) (2 ^ 5)))), (17, .agg #[.int .u64 13, .int .u64 8, .int .u64 13, .int .u64 12, .int .u64 16, .int .u64 5, .int .u64 3, .int .u64 10, .int .u64 15]), (18, .int .i64 1)]) (mem' := fun _ => [(2, .cells ((fr1 1).x) 74 [.int .u32 0, .int .u32 0, .int .u32 0])]) (RunsTo.mk [(7, { act := .load 4 0 0 [] })] [2, 3, 4, 5, 17, 18] [2] (fun _ => [(fr15 1).x = (fr15 1).x]) (fun _ => by kernel_rfl) (fun _ => ⟨rfl, trivial⟩)) ?_
  intro _
  refine GS.inBlock ?_
  refine bnd_elim hm (fun y21 e22 hm => ?_)
  refine GS.conv (env' := [(2, .pointer (some ⟨(fr1 1).x, 0, none⟩)), (3, .int .u32 y17), (4, .int .u32 (ixor .u32 (IntKind.u32.wrap ((IntKind.u32.wrap (y8 - y11)) - y17)) (IntKind.u32.wrap (y17 * 2 ^ 16)))), (5, .int .u32 y21), (17, .agg #[.int .u64 13, .int .u64 8, .int .u64 13, .int .u64 12, .int .u64 16, .int .u64 5, .int .u64 3, .int .u64 10, .int .u64 15]), (18, .int .i64 1)]) (congrArg (fun vhole : Int => ([(2, .pointer (some ⟨(fr1 1).x, 0, none⟩)), (3, .int .u32 y17), (4, .int .u32 (ixor .u32 (IntKind.u32.wrap ((IntKind.u32.wrap (y8 - y11)) - y17)) (IntKind.u32.wrap (y17 * 2 ^ 16)))), (5, .int .u32 vhole), (17, .agg #[.int .u64 13, .int .u64 8, .int .u64 13, .int .u64 12, .int .u64 16, .int .u64 5, .int .u64 3, .int .u64 10, .int .u64 15]), (18, .int .i64 1)] : List (Nat × Value))) (Option.some.inj e22)) rfl ?_
  refine GS.region (env' := fun _ => [(2, .pointer (some ⟨(fr1 1).x, 0, none⟩)), (3, .int .u32 y17), (4, .int .u32 (ixor .u32 (IntKind.u32.wrap ((IntKind.u32.wrap (y8 - y11)) - y17)) (IntKind.u32.wrap (y17 * 2 ^ 16)))), (5, .int .u32 y21), (17, .agg #[.int .u64 13, .int .u64 8, .int .u64 13, .int .u64 12, .int .u64 16, .int .u64 5, .int .u64 3, .int .u64 10, .int .u64 15]), (18, .int .i64 2)]) (mem' := fun _ => [(2, .cells ((fr1 1).x) 74 [.int .u32 0, .int .u32 0, .int .u32 0])]) (RunsTo.mk [] [2, 3, 4, 5, 17, 18] [2] (fun _ => []) (fun _ => by kernel_rfl) (fun _ => trivial)) ?_
  intro _
  refine GS.inLoop ?_
  refine GS.seq ?_
  refine GS.region (env' := fun _ => [(2, .pointer (some ⟨(fr1 1).x, 0, none⟩)), (3, .int .u32 y17), (4, .int .u32 (ixor .u32 (IntKind.u32.wrap ((IntKind.u32.wrap (y8 - y11)) - y17)) (IntKind.u32.wrap (y17 * 2 ^ 16)))), (5, .int .u32 y21), (17, .agg #[.int .u64 13, .int .u64 8, .int .u64 13, .int .u64 12, .int .u64 16, .int .u64 5, .int .u64 3, .int .u64 10, .int .u64 15]), (18, .int .i64 2), (19, .bool true)]) (mem' := fun _ => [(2, .cells ((fr1 1).x) 74 [.int .u32 0, .int .u32 0, .int .u32 0])]) (RunsTo.mk [] [2, 3, 4, 5, 17, 18, 19] [2] (fun _ => []) (fun _ => by kernel_rfl) (fun _ => trivial)) ?_
  intro _
  refine GS.seq ?_
  refine GS.cond (t := true) rfl rfl (fun _ => ?_) (fun hf => by cases hf)
  refine GS.skip ?_
  refine GS.seq ?_
  refine GS.block ?_
  refine GS.seq ?_
  refine GS.region (env' := fun fr25 => [(2, .pointer (some ⟨(fr1 1).x, 0, none⟩)), (3, .int .u32 y17), (4, .int .u32 (ixor .u32 (IntKind.u32.wrap ((IntKind.u32.wrap (y8 - y11)) - y17)) (IntKind.u32.wrap (y17 * 2 ^ 16)))), (5, .int .u32 y21), (7, .pointer (some ⟨(fr25 1).x, 0, none⟩)), (17, .agg #[.int .u64 13, .int .u64 8, .int .u64 13, .int .u64 12, .int .u64 16, .int .u64 5, .int .u64 3, .int .u64 10, .int .u64 15]), (18, .int .i64 2)]) (mem' := fun fr25 => [(2, .cells ((fr1 1).x) 74 [.int .u32 0, .int .u32 0, .int .u32 0]), (5, .cells ((fr25 1).x) 98 [.int .u64 3, .int .u64 10, .int .u64 15])]) (RunsTo.mk [(1, { act := .new .var, key := some 5 }), (2, { act := .store 0 0 [], key := some 5 })] [2, 3, 4, 5, 7, 17, 18] [2, 5] (fun fr25 => [(fr25 1).x = (fr25 1).x, ((.agg #[.int .u64 3, .int .u64 10, .int .u64 15]) : Value).cells.toList.all Value.oneCell' = true]) (fun fr25 => by kernel_rfl) (fun fr25 => ⟨rfl, rfl, trivial⟩)) ?_
  intro fr25
  refine GS.seq ?_
  refine GS.region (env' := fun _ => [(2, .pointer (some ⟨(fr1 1).x, 0, none⟩)), (3, .int .u32 (ixor .u32 (IntKind.u32.wrap ((IntKind.u32.wrap (y17 - (ixor .u32 (IntKind.u32.wrap ((IntKind.u32.wrap (y8 - y11)) - y17)) (IntKind.u32.wrap (y17 * 2 ^ 16))))) - y21)) (Int.fdiv y21 (2 ^ 3)))), (4, .int .u32 (ixor .u32 (IntKind.u32.wrap ((IntKind.u32.wrap (y8 - y11)) - y17)) (IntKind.u32.wrap (y17 * 2 ^ 16)))), (5, .int .u32 y21), (7, .pointer (some ⟨(fr25 1).x, 0, none⟩)), (17, .agg #[.int .u64 13, .int .u64 8, .int .u64 13, .int .u64 12, .int .u64 16, .int .u64 5, .int .u64 3, .int .u64 10, .int .u64 15]), (18, .int .i64 2)]) (mem' := fun _ => [(2, .cells ((fr1 1).x) 74 [.int .u32 0, .int .u32 0, .int .u32 0]), (5, .cells ((fr25 1).x) 98 [.int .u64 3, .int .u64 10, .int .u64 15])]) (RunsTo.mk [(7, { act := .load 5 0 0 [] })] [2, 3, 4, 5, 7, 17, 18] [2, 5] (fun _ => [(fr25 1).x = (fr25 1).x]) (fun _ => by kernel_rfl) (fun _ => ⟨rfl, trivial⟩)) ?_
  intro _
  refine GS.seq ?_
  refine bnd_elim hm (fun y27 e28 hm => ?_)
  refine GS.conv (env' := [(2, .pointer (some ⟨(fr1 1).x, 0, none⟩)), (3, .int .u32 y27), (4, .int .u32 (ixor .u32 (IntKind.u32.wrap ((IntKind.u32.wrap (y8 - y11)) - y17)) (IntKind.u32.wrap (y17 * 2 ^ 16)))), (5, .int .u32 y21), (7, .pointer (some ⟨(fr25 1).x, 0, none⟩)), (17, .agg #[.int .u64 13, .int .u64 8, .int .u64 13, .int .u64 12, .int .u64 16, .int .u64 5, .int .u64 3, .int .u64 10, .int .u64 15]), (18, .int .i64 2)]) (congrArg (fun vhole : Int => ([(2, .pointer (some ⟨(fr1 1).x, 0, none⟩)), (3, .int .u32 vhole), (4, .int .u32 (ixor .u32 (IntKind.u32.wrap ((IntKind.u32.wrap (y8 - y11)) - y17)) (IntKind.u32.wrap (y17 * 2 ^ 16)))), (5, .int .u32 y21), (7, .pointer (some ⟨(fr25 1).x, 0, none⟩)), (17, .agg #[.int .u64 13, .int .u64 8, .int .u64 13, .int .u64 12, .int .u64 16, .int .u64 5, .int .u64 3, .int .u64 10, .int .u64 15]), (18, .int .i64 2)] : List (Nat × Value))) (Option.some.inj e28)) rfl ?_
  refine GS.region (env' := fun _ => [(2, .pointer (some ⟨(fr1 1).x, 0, none⟩)), (3, .int .u32 y27), (4, .int .u32 (ixor .u32 (IntKind.u32.wrap ((IntKind.u32.wrap ((ixor .u32 (IntKind.u32.wrap ((IntKind.u32.wrap (y8 - y11)) - y17)) (IntKind.u32.wrap (y17 * 2 ^ 16))) - y21)) - y27)) (IntKind.u32.wrap (y27 * 2 ^ 10)))), (5, .int .u32 y21), (7, .pointer (some ⟨(fr25 1).x, 0, none⟩)), (17, .agg #[.int .u64 13, .int .u64 8, .int .u64 13, .int .u64 12, .int .u64 16, .int .u64 5, .int .u64 3, .int .u64 10, .int .u64 15]), (18, .int .i64 2)]) (mem' := fun _ => [(2, .cells ((fr1 1).x) 74 [.int .u32 0, .int .u32 0, .int .u32 0]), (5, .cells ((fr25 1).x) 98 [.int .u64 3, .int .u64 10, .int .u64 15])]) (RunsTo.mk [(7, { act := .load 5 0 0 [] })] [2, 3, 4, 5, 7, 17, 18] [2, 5] (fun _ => [(fr25 1).x = (fr25 1).x]) (fun _ => by kernel_rfl) (fun _ => ⟨rfl, trivial⟩)) ?_
  intro _
  refine bnd_elim hm (fun y30 e31 hm => ?_)
  refine GS.conv (env' := [(2, .pointer (some ⟨(fr1 1).x, 0, none⟩)), (3, .int .u32 y27), (4, .int .u32 y30), (5, .int .u32 y21), (7, .pointer (some ⟨(fr25 1).x, 0, none⟩)), (17, .agg #[.int .u64 13, .int .u64 8, .int .u64 13, .int .u64 12, .int .u64 16, .int .u64 5, .int .u64 3, .int .u64 10, .int .u64 15]), (18, .int .i64 2)]) (congrArg (fun vhole : Int => ([(2, .pointer (some ⟨(fr1 1).x, 0, none⟩)), (3, .int .u32 y27), (4, .int .u32 vhole), (5, .int .u32 y21), (7, .pointer (some ⟨(fr25 1).x, 0, none⟩)), (17, .agg #[.int .u64 13, .int .u64 8, .int .u64 13, .int .u64 12, .int .u64 16, .int .u64 5, .int .u64 3, .int .u64 10, .int .u64 15]), (18, .int .i64 2)] : List (Nat × Value))) (Option.some.inj e31)) rfl ?_
  refine GS.region (env' := fun _ => [(2, .pointer (some ⟨(fr1 1).x, 0, none⟩)), (3, .int .u32 y27), (4, .int .u32 y30), (5, .int .u32 (ixor .u32 (IntKind.u32.wrap ((IntKind.u32.wrap (y21 - y27)) - y30)) (Int.fdiv y30 (2 ^ 15)))), (17, .agg #[.int .u64 13, .int .u64 8, .int .u64 13, .int .u64 12, .int .u64 16, .int .u64 5, .int .u64 3, .int .u64 10, .int .u64 15]), (18, .int .i64 2)]) (mem' := fun _ => [(2, .cells ((fr1 1).x) 74 [.int .u32 0, .int .u32 0, .int .u32 0])]) (RunsTo.mk [(7, { act := .load 5 0 0 [] })] [2, 3, 4, 5, 17, 18] [2] (fun _ => [(fr25 1).x = (fr25 1).x]) (fun _ => by kernel_rfl) (fun _ => ⟨rfl, trivial⟩)) ?_
  intro _
  refine GS.inBlock ?_
  refine GS.region (env' := fun _ => [(2, .pointer (some ⟨(fr1 1).x, 0, none⟩)), (3, .int .u32 y27), (4, .int .u32 y30), (5, .int .u32 (ixor .u32 (IntKind.u32.wrap ((IntKind.u32.wrap (y21 - y27)) - y30)) (Int.fdiv y30 (2 ^ 15)))), (17, .agg #[.int .u64 13, .int .u64 8, .int .u64 13, .int .u64 12, .int .u64 16, .int .u64 5, .int .u64 3, .int .u64 10, .int .u64 15]), (18, .int .i64 3)]) (mem' := fun _ => [(2, .cells ((fr1 1).x) 74 [.int .u32 0, .int .u32 0, .int .u32 0])]) (RunsTo.mk [] [2, 3, 4, 5, 17, 18] [2] (fun _ => []) (fun _ => by kernel_rfl) (fun _ => trivial)) ?_
  intro _
  refine GS.inLoop ?_
  refine GS.seq ?_
  refine GS.region (env' := fun _ => [(2, .pointer (some ⟨(fr1 1).x, 0, none⟩)), (3, .int .u32 y27), (4, .int .u32 y30), (5, .int .u32 (ixor .u32 (IntKind.u32.wrap ((IntKind.u32.wrap (y21 - y27)) - y30)) (Int.fdiv y30 (2 ^ 15)))), (17, .agg #[.int .u64 13, .int .u64 8, .int .u64 13, .int .u64 12, .int .u64 16, .int .u64 5, .int .u64 3, .int .u64 10, .int .u64 15]), (18, .int .i64 3), (19, .bool false)]) (mem' := fun _ => [(2, .cells ((fr1 1).x) 74 [.int .u32 0, .int .u32 0, .int .u32 0])]) (RunsTo.mk [] [2, 3, 4, 5, 17, 18, 19] [2] (fun _ => []) (fun _ => by kernel_rfl) (fun _ => trivial)) ?_
  intro _
  refine GS.seq ?_
  refine GS.cond (t := false) rfl rfl (fun hf => by cases hf) (fun _ => ?_)
  refine GS.exit rfl ?_
  refine GS.seq ?_
  refine GS.region (env' := fun _ => [(2, .pointer (some ⟨(fr1 1).x, 0, none⟩))]) (mem' := fun _ => [(2, .cells ((fr1 1).x) 74 [.int .u32 y27, .int .u32 y30, .int .u32 (ixor .u32 (IntKind.u32.wrap ((IntKind.u32.wrap (y21 - y27)) - y30)) (Int.fdiv y30 (2 ^ 15)))])]) (RunsTo.mk [(4, { act := .store 0 0 [], key := some 2 })] [2] [2] (fun _ => [(fr1 1).x = (fr1 1).x, ((.agg #[.int .u32 y27, .int .u32 y30, .int .u32 (ixor .u32 (IntKind.u32.wrap ((IntKind.u32.wrap (y21 - y27)) - y30)) (Int.fdiv y30 (2 ^ 15)))]) : Value).cells.toList.all Value.oneCell' = true]) (fun _ => by kernel_rfl) (fun _ => ⟨rfl, rfl, trivial⟩)) ?_
  intro _
  have hy := Option.some.inj hm
  subst hy
  refine GS.ret (fn := Try.f38) [2] [.agg #[.int .u32 y27, .int .u32 y30, .int .u32 (ixor .u32 (IntKind.u32.wrap ((IntKind.u32.wrap (y21 - y27)) - y30)) (Int.fdiv y30 (2 ^ 15)))]] [(fr1 1).x = (fr1 1).x] rfl Try.func38 (by kernel_rfl) ⟨rfl, trivial⟩ (fun w' hs => ?_)
  exact ⟨(), rfl, hs.turnedG (ks := []) rfl rfl⟩

theorem w_tholeref01_Hash1 (F : Nat) (a0 : Int) {y : Int} (hm : m_tholeref01_Hash1 F a0 = some y) : CallG Try.prog 22 #[.int .u32 a0] (X := Unit) (fun (_ : Unit) => .int .u32 y) [] [] (fun (_ : Unit) => []) := by
  intro w hg
  rw [m_tholeref01_Hash1] at hm
  refine GS.start (S := mayT [] []) (mem := []) Try.func22 rfl Try.ntmps22 (Nat.le_of_ble_eq_true rfl) (hg.start rfl) ?_
  refine GS.conv (env' := [(0, .int .u32 a0)]) rfl rfl ?_
  refine GS.seq ?_
  refine GS.region (env' := fun _ => [(0, .int .u32 a0)]) (mem' := fun _ => []) (RunsTo.mk [] [0] [] (fun _ => []) (fun _ => by kernel_rfl) (fun _ => trivial)) ?_
  intro _
  refine GS.seq ?_
  refine bnd_elim hm (fun y3 e4 hm => ?_)
  refine GS.region (env' := fun fr2 => [(0, .int .u32 a0), (3, .pointer (some ⟨(fr2 5).x, 0, none⟩))]) (mem' := fun fr2 => [(1, .cells ((fr2 5).x) 74 [.int .u32 y3.A, .int .u32 y3.B, .int .u32 y3.C])]) (RunsTo.mk [(4, { act := .call [] (.agg #[.int .u32 y3.A, .int .u32 y3.B, .int .u32 y3.C]) }), (5, { act := .new .var, key := some 1 }), (6, { act := .store 0 0 [], key := some 1 })] [0, 3] [1] (fun fr2 => [CallOK Try.prog 38 #[.agg #[.int .u32 a0, .int .u32 231232, .int .u32 (ixor .u32 1315423911 a0)]] (.agg #[.int .u32 y3.A, .int .u32 y3.B, .int .u32 y3.C]) [], (fr2 5).x = (fr2 5).x, ((.agg #[.int .u32 y3.A, .int .u32 y3.B, .int .u32 y3.C]) : Value).cells.toList.all Value.oneCell' = true]) (fun fr2 => by kernel_rfl) (fun fr2 => ⟨(w_tholeref01_Mix F (S_tholeref01_Three.mk a0 231232 (ixor .u32 1315423911 a0)) e4).ok trivial, rfl, rfl, trivial⟩)) ?_
  intro fr2
  refine GS.seq ?_
  refine bnd_elim hm (fun y6 e7 hm => ?_)
  refine GS.region (env' := fun _ => [(2, .int .u32 y6.C)]) (mem' := fun _ => []) (RunsTo.mk [(2, { act := .load 1 0 0 [] }), (4, { act := .call [] (.agg #[.int .u32 y6.A, .int .u32 y6.B, .int .u32 y6.C]) })] [2] [] (fun _ => [(fr2 5).x = (fr2 5).x, CallOK Try.prog 38 #[.agg #[.int .u32 1232, .int .u32 a0, .int .u32 y3.C]] (.agg #[.int .u32 y6.A, .int .u32 y6.B, .int .u32 y6.C]) []]) (fun _ => by kernel_rfl) (fun _ => ⟨rfl, (w_tholeref01_Mix F (S_tholeref01_Three.mk 1232 a0 y3.C) e7).ok trivial, trivial⟩)) ?_
  intro _
  have hy := Option.some.inj hm
  subst hy
  refine GS.ret (fn := Try.f22) [0] [.int .u32 y6.C] [] rfl Try.func22 (by kernel_rfl) trivial (fun w' hs => ?_)
  exact ⟨(), rfl, hs.turnedG (ks := []) rfl rfl⟩

theorem w___digest_Engine__Hash2 (F : Nat) (a0b : Nat) (a0 : S_digest_Engine) (a1 : Int) (a2 : Int) {y : Int} (hm : m___digest_Engine__Hash2 F a0 a1 a2 = some y) : CallG Try.prog 23 #[.pointer (some ⟨a0b, 0, none⟩), .int .u32 a1, .int .u32 a2] (X := Unit) (fun (_ : Unit) => .int .u32 y) [] [.rd (some ⟨a0b, 0, none⟩) (List.length (([.int .u32 a0.once.done.v, .int .i32 a0.once.m.mu.state, .int .u32 a0.once.m.mu.sema] : List Value) ++ (aU32 a0.table ++ (([.int .i64 a0.calls.v] : List Value))))) ([([.int .u32 a0.once.done.v, .int .i32 a0.once.m.mu.state, .int .u32 a0.once.m.mu.sema] : List Value) ++ (aU32 a0.table ++ (([.int .i64 a0.calls.v] : List Value)))] : List (List Value))] (fun (_ : Unit) => []) := by
  intro w hg
  rw [m___digest_Engine__Hash2] at hm
  refine GS.start (S := mayT [] [.rd (some ⟨a0b, 0, none⟩) (List.length (([.int .u32 a0.once.done.v, .int .i32 a0.once.m.mu.state, .int .u32 a0.once.m.mu.sema] : List Value) ++ (aU32 a0.table ++ (([.int .i64 a0.calls.v] : List Value))))) ([([.int .u32 a0.once.done.v, .int .i32 a0.once.m.mu.state, .int .u32 a0.once.m.mu.sema] : List Value) ++ (aU32 a0.table ++ (([.int .i64 a0.calls.v] : List Value)))] : List (List Value))]) (mem := [(1, .rd (some ⟨a0b, 0, none⟩) (List.length (([.int .u32 a0.once.done.v, .int .i32 a0.once.m.mu.state, .int .u32 a0.once.m.mu.sema] : List Value) ++ (aU32 a0.table ++ (([.int .i64 a0.calls.v] : List Value))))) ([([.int .u32 a0.once.done.v, .int .i32 a0.once.m.mu.state, .int .u32 a0.once.m.mu.sema] : List Value) ++ (aU32 a0.table ++ (([.int .i64 a0.calls.v] : List Value)))] : List (List Value)))]) Try.func23 rfl Try.ntmps23 (Nat.le_of_ble_eq_true rfl) (hg.start rfl) ?_
  refine GS.conv (env' := [(0, .pointer (some ⟨a0b, 0, none⟩)), (1, .int .u32 a1), (2, .int .u32 a2)]) rfl rfl ?_
  refine GS.seq ?_
  refine GS.region (env' := fun fr1 => [(0, .pointer (some ⟨a0b, 0, none⟩)), (4, .pointer (some ⟨(fr1 0).x, 0, none⟩)), (5, .pointer (some ⟨(fr1 1).x, 0, none⟩))]) (mem' := fun fr1 => [(1, .rd (some ⟨a0b, 0, none⟩) (List.length (([.int .u32 a0.once.done.v, .int .i32 a0.once.m.mu.state, .int .u32 a0.once.m.mu.sema] : List Value) ++ (aU32 a0.table ++ (([.int .i64 a0.calls.v] : List Value))))) ([([.int .u32 a0.once.done.v, .int .i32 a0.once.m.mu.state, .int .u32 a0.once.m.mu.sema] : List Value) ++ (aU32 a0.table ++ (([.int .i64 a0.calls.v] : List Value)))] : List (List Value))), (2, .cells ((fr1 0).x) 28 [.int .u32 a1]), (3, .cells ((fr1 1).x) 28 [.int .u32 a2])]) (RunsTo.mk [(0, { act := .new .var, key := some 2 }), (1, { act := .new .var, key := some 3 })] [0, 4, 5] [1, 2, 3] (fun fr1 => []) (fun fr1 => by kernel_rfl) (fun fr1 => trivial)) ?_
  intro fr1
  refine GS.seq ?_
  refine GS.seq ?_
  refine GS.region (env' := fun _ => [(4, .pointer (some ⟨(fr1 0).x, 0, none⟩)), (5, .pointer (some ⟨(fr1 1).x, 0, none⟩)), (11, .bool false)]) (mem' := fun _ => [(2, .cells ((fr1 0).x) 28 [.int .u32 a1]), (3, .cells ((fr1 1).x) 28 [.int .u32 a2])]) (RunsTo.mk [] [4, 5, 11] [2, 3] (fun _ => []) (fun _ => by kernel_rfl) (fun _ => trivial)) ?_
  intro _
  refine GS.cond (t := false) rfl rfl (fun hf => by cases hf) (fun _ => ?_)
  refine GS.skip ?_
  refine GS.seq ?_
  refine GS.region (env' := fun fr3 => [(4, .pointer (some ⟨(fr1 0).x, 0, none⟩)), (5, .pointer (some ⟨(fr1 1).x, 0, none⟩)), (7, .pointer (some ⟨(fr3 4).x, 0, none⟩))]) (mem' := fun fr3 => [(2, .cells ((fr1 0).x) 28 [.int .u32 a1]), (3, .cells ((fr1 1).x) 28 [.int .u32 a2]), (4, .cells ((fr3 4).x) 28 [.int .u32 (ixor .u32 (ixor .u32 1315423911 a1) a2)])]) (RunsTo.mk [(0, { act := .load 2 0 0 [] }), (2, { act := .load 3 0 0 [] }), (4, { act := .new .var, key := some 4 }), (5, { act := .store 0 0 [], key := some 4 })] [4, 5, 7] [2, 3, 4] (fun fr3 => [(fr1 0).x = (fr1 0).x, (fr1 1).x = (fr1 1).x, (fr3 4).x = (fr3 4).x, ((.int .u32 (ixor .u32 (ixor .u32 1315423911 a1) a2)) : Value).cells.toList.all Value.oneCell' = true]) (fun fr3 => by kernel_rfl) (fun fr3 => ⟨rfl, rfl, rfl, rfl, trivial⟩)) ?_
  intro fr3
  refine GS.seq ?_
  refine GS.region (env' := fun fr4 => [(4, .pointer (some ⟨(fr1 0).x, 0, none⟩)), (5, .pointer (some ⟨(fr1 1).x, 0, none⟩)), (7, .pointer (some ⟨(fr3 4).x, 0, none⟩)), (8, .pointer (some ⟨(fr4 0).x, 0, none⟩)), (9, .pointer (some ⟨(fr4 1).x, 0, none⟩))]) (mem' := fun fr4 => [(2, .cells ((fr1 0).x) 28 [.int .u32 a1]), (3, .cells ((fr1 1).x) 28 [.int .u32 a2]), (4, .cells ((fr3 4).x) 28 [.int .u32 (ixor .u32 (ixor .u32 1315423911 a1) a2)]), (5, .cells ((fr4 0).x) 28 [.int .u32 231232]), (6, .cells ((fr4 1).x) 28 [.int .u32 1232])]) (RunsTo.mk [(0, { act := .new .var, key := some 5 }), (1, { act := .new .var, key := some 6 }), (2, { act := .store 0 0 [], key := some 5 }), (3, { act := .store 0 0 [], key := some 6 })] [4, 5, 7, 8, 9] [2, 3, 4, 5, 6] (fun fr4 => [(fr4 0).x = (fr4 0).x, ((.int .u32 231232) : Value).cells.toList.all Value.oneCell' = true, (fr4 1).x = (fr4 1).x, ((.int .u32 1232) : Value).cells.toList.all Value.oneCell' = true]) (fun fr4 => by kernel_rfl) (fun fr4 => ⟨rfl, rfl, rfl, rfl, trivial⟩)) ?_
  intro fr4
  refine GS.seq ?_
  refine bnd_elim hm (fun y6 e7 hm => ?_)
  refine GS.open_ ?_
  refine GR.callG (X := Unit) (i := 0) (g := 41) (args := #[.pointer (some ⟨(fr1 0).x, 0, none⟩), .pointer (some ⟨(fr1 1).x, 0, none⟩), .pointer (some ⟨(fr3 4).x, 0, none⟩)]) (v := fun (_ : Unit) => .tuple #[]) (own := [.cells ((fr1 0).x) 28 [.int .u32 a1], .cells ((fr1 1).x) 28 [.int .u32 a2], .cells ((fr3 4).x) 28 [.int .u32 (ixor .u32 (ixor .u32 1315423911 a1) a2)]]) (ro := []) (es' := fun (_ : Unit) => [.cells ((fr1 0).x) 28 [.int .u32 y6.1], .cells ((fr1 1).x) 28 [.int .u32 y6.2.1], .cells ((fr3 4).x) 28 [.int .u32 y6.2.2]]) (mem' := fun (_ : Unit) => [(2, .cells ((fr1 0).x) 28 [.int .u32 y6.1]), (3, .cells ((fr1 1).x) 28 [.int .u32 y6.2.1]), (4, .cells ((fr3 4).x) 28 [.int .u32 y6.2.2]), (5, .cells ((fr4 0).x) 28 [.int .u32 231232]), (6, .cells ((fr4 1).x) 28 [.int .u32 1232])]) (env' := fun (_ : Unit) => [(4, .pointer (some ⟨(fr1 0).x, 0, none⟩)), (5, .pointer (some ⟨(fr1 1).x, 0, none⟩)), (7, .pointer (some ⟨(fr3 4).x, 0, none⟩)), (8, .pointer (some ⟨(fr4 0).x, 0, none⟩)), (9, .pointer (some ⟨(fr4 1).x, 0, none⟩))]) [2, 3, 4] [2, 3, 4] [4, 5, 7, 8, 9] [2, 3, 4, 5, 6] false (by kernel_rfl) (by kernel_rfl) (by kernel_rfl) (by kernel_rfl) (by kernel_rfl) (fun _ => rfl) (fun _ _ => rfl) trivial (by rintro _; kernel_rfl) (by rintro _; kernel_rfl) (w_digest_mix F (fr1 0).x a1 (fr1 1).x a2 (fr3 4).x (ixor .u32 (ixor .u32 1315423911 a1) a2) e7) ?_
  rintro _
  refine GR.done (Nat.le_of_ble_eq_true (by kernel_rfl)) ?_
  refine GS.seq ?_
  refine bnd_elim hm (fun y10 e11 hm => ?_)
  refine GS.open_ ?_
  refine GR.callG (X := Unit) (i := 0) (g := 41) (args := #[.pointer (some ⟨(fr4 0).x, 0, none⟩), .pointer (some ⟨(fr1 0).x, 0, none⟩), .pointer (some ⟨(fr3 4).x, 0, none⟩)]) (v := fun (_ : Unit) => .tuple #[]) (own := [.cells ((fr4 0).x) 28 [.int .u32 231232], .cells ((fr1 0).x) 28 [.int .u32 y6.1], .cells ((fr3 4).x) 28 [.int .u32 y6.2.2]]) (ro := []) (es' := fun (_ : Unit) => [.cells ((fr4 0).x) 28 [.int .u32 y10.1], .cells ((fr1 0).x) 28 [.int .u32 y10.2.1], .cells ((fr3 4).x) 28 [.int .u32 y10.2.2]]) (mem' := fun (_ : Unit) => [(2, .cells ((fr1 0).x) 28 [.int .u32 y10.2.1]), (3, .cells ((fr1 1).x) 28 [.int .u32 y6.2.1]), (4, .cells ((fr3 4).x) 28 [.int .u32 y10.2.2]), (5, .cells ((fr4 0).x) 28 [.int .u32 y10.1]), (6, .cells ((fr4 1).x) 28 [.int .u32 1232])]) (env' := fun (_ : Unit) => [(5, .pointer (some ⟨(fr1 1).x, 0, none⟩)), (7, .pointer (some ⟨(fr3 4).x, 0, none⟩)), (9, .pointer (some ⟨(fr4 1).x, 0, none⟩))]) [5, 2, 4] [5, 2, 4] [5, 7, 9] [2, 3, 4, 5, 6] false (by kernel_rfl) (by kernel_rfl) (by kernel_rfl) (by kernel_rfl) (by kernel_rfl) (fun _ => rfl) (fun _ _ => rfl) trivial (by rintro _; kernel_rfl) (by rintro _; kernel_rfl) (w_digest_mix F (fr4 0).x 231232 (fr1 0).x y6.1 (fr3 4).x y6.2.2 e11) ?_
  rintro _
  refine GR.done (Nat.le_of_ble_eq_true (by kernel_rfl)) ?_
  refine GS.seq ?_
  refine bnd_elim hm (fun y14 e15 hm => ?_)
  refine GS.open_ ?_
  refine GR.callG (X := Unit) (i := 0) (g := 41) (args := #[.pointer (some ⟨(fr1 1).x, 0, none⟩), .pointer (some ⟨(fr4 1).x, 0, none⟩), .pointer (some ⟨(fr3 4).x, 0, none⟩)]) (v := fun (_ : Unit) => .tuple #[]) (own := [.cells ((fr1 1).x) 28 [.int .u32 y6.2.1], .cells ((fr4 1).x) 28 [.int .u32 1232], .cells ((fr3 4).x) 28 [.int .u32 y10.2.2]]) (ro := []) (es' := fun (_ : Unit) => [.cells ((fr1 1).x) 28 [.int .u32 y14.1], .cells ((fr4 1).x) 28 [.int .u32 y14.2.1], .cells ((fr3 4).x) 28 [.int .u32 y14.2.2]]) (mem' := fun (_ : Unit) => [(2, .cells ((fr1 0).x) 28 [.int .u32 y10.2.1]), (3, .cells ((fr1 1).x) 28 [.int .u32 y14.1]), (4, .cells ((fr3 4).x) 28 [.int .u32 y14.2.2]), (5, .cells ((fr4 0).x) 28 [.int .u32 y10.1]), (6, .cells ((fr4 1).x) 28 [.int .u32 y14.2.1])]) (env' := fun (_ : Unit) => [(7, .pointer (some ⟨(fr3 4).x, 0, none⟩))]) [3, 6, 4] [3, 6, 4] [7] [2, 3, 4, 5, 6] false (by kernel_rfl) (by kernel_rfl) (by kernel_rfl) (by kernel_rfl) (by kernel_rfl) (fun _ => rfl) (fun _ _ => rfl) trivial (by rintro _; kernel_rfl) (by rintro _; kernel_rfl) (w_digest_mix F (fr1 1).x y6.2.1 (fr4 1).x 1232 (fr3 4).x y10.2.2 e15) ?_
  rintro _
  refine GR.done (Nat.le_of_ble_eq_true (by kernel_rfl)) ?_
  refine GS.seq ?_
  refine GS.region (env' := fun _ => [(6, .int .u32 y14.2.2)]) (mem' := fun _ => []) (RunsTo.mk [(0, { act := .load 4 0 0 [] })] [6] [] (fun _ => [(fr3 4).x = (fr3 4).x]) (fun _ => by kernel_rfl) (fun _ => ⟨rfl, trivial⟩)) ?_
  intro _
  have hy := Option.some.inj hm
  subst hy
  refine GS.ret (fn := Try.f23) [0] [.int .u32 y14.2.2] [] rfl Try.func23 (by kernel_rfl) trivial (fun w' hs => ?_)
  exact ⟨(), rfl, hs.turnedG (ks := []) rfl rfl⟩

theorem w_tholeref01_Hash2 (F : Nat) (a0 : Int) (a1 : Int) {y : Int} (hm : m_tholeref01_Hash2 F a0 a1 = some y) : CallG Try.prog 24 #[.int .u32 a0, .int .u32 a1] (X := Unit) (fun (_ : Unit) => .int .u32 y) [] [] (fun (_ : Unit) => []) := by
  intro w hg
  rw [m_tholeref01_Hash2] at hm
  refine GS.start (S := mayT [] []) (mem := []) Try.func24 rfl Try.ntmps24 (Nat.le_of_ble_eq_true rfl) (hg.start rfl) ?_
  refine GS.conv (env' := [(0, .int .u32 a0), (1, .int .u32 a1)]) rfl rfl ?_
  refine GS.seq ?_
  refine GS.region (env' := fun _ => [(0, .int .u32 a0), (1, .int .u32 a1)]) (mem' := fun _ => []) (RunsTo.mk [] [0, 1] [] (fun _ => []) (fun _ => by kernel_rfl) (fun _ => trivial)) ?_
  intro _
  refine GS.seq ?_
  refine bnd_elim hm (fun y3 e4 hm => ?_)
  refine GS.region (env' := fun fr2 => [(5, .pointer (some ⟨(fr2 8).x, 0, none⟩))]) (mem' := fun fr2 => [(1, .cells ((fr2 8).x) 74 [.int .u32 y3.A, .int .u32 y3.B, .int .u32 y3.C])]) (RunsTo.mk [(7, { act := .call [] (.agg #[.int .u32 y3.A, .int .u32 y3.B, .int .u32 y3.C]) }), (8, { act := .new .var, key := some 1 }), (9, { act := .store 0 0 [], key := some 1 })] [5] [1] (fun fr2 => [CallOK Try.prog 38 #[.agg #[.int .u32 a0, .int .u32 a1, .int .u32 (ixor .u32 (ixor .u32 1315423911 a0) a1)]] (.agg #[.int .u32 y3.A, .int .u32 y3.B, .int .u32 y3.C]) [], (fr2 8).x = (fr2 8).x, ((.agg #[.int .u32 y3.A, .int .u32 y3.B, .int .u32 y3.C]) : Value).cells.toList.all Value.oneCell' = true]) (fun fr2 => by kernel_rfl) (fun fr2 => ⟨(w_tholeref01_Mix F (S_tholeref01_Three.mk a0 a1 (ixor .u32 (ixor .u32 1315423911 a0) a1)) e4).ok trivial, rfl, rfl, trivial⟩)) ?_
  intro fr2
  refine GS.seq ?_
  refine bnd_elim hm (fun y6 e7 hm => ?_)
  refine GS.region (env' := fun fr5 => [(5, .pointer (some ⟨(fr2 8).x, 0, none⟩)), (6, .pointer (some ⟨(fr5 6).x, 0, none⟩))]) (mem' := fun fr5 => [(1, .cells ((fr2 8).x) 74 [.int .u32 y3.A, .int .u32 y3.B, .int .u32 y3.C]), (2, .cells ((fr5 6).x) 74 [.int .u32 y6.A, .int .u32 y6.B, .int .u32 y6.C])]) (RunsTo.mk [(1, { act := .load 1 0 0 [] }), (3, { act := .load 1 0 0 [] }), (5, { act := .call [] (.agg #[.int .u32 y6.A, .int .u32 y6.B, .int .u32 y6.C]) }), (6, { act := .new .var, key := some 2 }), (7, { act := .store 0 0 [], key := some 2 })] [5, 6] [1, 2] (fun fr5 => [(fr2 8).x = (fr2 8).x, (fr2 8).x = (fr2 8).x, CallOK Try.prog 38 #[.agg #[.int .u32 231232, .int .u32 y3.A, .int .u32 y3.C]] (.agg #[.int .u32 y6.A, .int .u32 y6.B, .int .u32 y6.C]) [], (fr5 6).x = (fr5 6).x, ((.agg #[.int .u32 y6.A, .int .u32 y6.B, .int .u32 y6.C]) : Value).cells.toList.all Value.oneCell' = true]) (fun fr5 => by kernel_rfl) (fun fr5 => ⟨rfl, rfl, (w_tholeref01_Mix F (S_tholeref01_Three.mk 231232 y3.A y3.C) e7).ok trivial, rfl, rfl, trivial⟩)) ?_
  intro fr5
  refine GS.seq ?_
  refine bnd_elim hm (fun y9 e10 hm => ?_)
  refine GS.region (env' := fun _ => [(4, .int .u32 y9.C)]) (mem' := fun _ => []) (RunsTo.mk [(1, { act := .load 1 0 0 [] }), (3, { act := .load 2 0 0 [] }), (5, { act := .call [] (.agg #[.int .u32 y9.A, .int .u32 y9.B, .int .u32 y9.C]) })] [4] [] (fun _ => [(fr2 8).x = (fr2 8).x, (fr5 6).x = (fr5 6).x, CallOK Try.prog 38 #[.agg #[.int .u32 y3.B, .int .u32 1232, .int .u32 y6.C]] (.agg #[.int .u32 y9.A, .int .u32 y9.B, .int .u32 y9.C]) []]) (fun _ => by kernel_rfl) (fun _ => ⟨rfl, rfl, (w_tholeref01_Mix F (S_tholeref01_Three.mk y3.B 1232 y6.C) e10).ok trivial, trivial⟩)) ?_
  intro _
  have hy := Option.some.inj hm
  subst hy
  refine GS.ret (fn := Try.f24) [0] [.int .u32 y9.C] [] rfl Try.func24 (by kernel_rfl) trivial (fun w' hs => ?_)
  exact ⟨(), rfl, hs.turnedG (ks := []) rfl rfl⟩

theorem w___digest_Engine__Hash3 (F : Nat) (a0b : Nat) (a0 : S_digest_Engine) (a1 : Int) (a2 : Int) (a3 : Int) {y : Int} (hm : m___digest_Engine__Hash3 F a0 a1 a2 a3 = some y) : CallG Try.prog 25 #[.pointer (some ⟨a0b, 0, none⟩), .int .u32 a1, .int .u32 a2, .int .u32 a3] (X := Unit) (fun (_ : Unit) => .int .u32 y) [] [.rd (some ⟨a0b, 0, none⟩) (List.length (([.int .u32 a0.once.done.v, .int .i32 a0.once.m.mu.state, .int .u32 a0.once.m.mu.sema] : List Value) ++ (aU32 a0.table ++ (([.int .i64 a0.calls.v] : List Value))))) ([([.int .u32 a0.once.done.v, .int .i32 a0.once.m.mu.state, .int .u32 a0.once.m.mu.sema] : List Value) ++ (aU32 a0.table ++ (([.int .i64 a0.calls.v] : List Value)))] : List (List Value))] (fun (_ : Unit) => []) := by
  intro w hg
  rw [m___digest_Engine__Hash3] at hm
  refine GS.start (S := mayT [] [.rd (some ⟨a0b, 0, none⟩) (List.length (([.int .u32 a0.once.done.v, .int .i32 a0.once.m.mu.state, .int .u32 a0.once.m.mu.sema] : List Value) ++ (aU32 a0.table ++ (([.int .i64 a0.calls.v] : List Value))))) ([([.int .u32 a0.once.done.v, .int .i32 a0.once.m.mu.state, .int .u32 a0.once.m.mu.sema] : List Value) ++ (aU32 a0.table ++ (([.int .i64 a0.calls.v] : List Value)))] : List (List Value))]) (mem := [(1, .rd (some ⟨a0b, 0, none⟩) (List.length (([.int .u32 a0.once.done.v, .int .i32 a0.once.m.mu.state, .int .u32 a0.once.m.mu.sema] : List Value) ++ (aU32 a0.table ++ (([.int .i64 a0.calls.v] : List Value))))) ([([.int .u32 a0.once.done.v, .int .i32 a0.once.m.mu.state, .int .u32 a0.once.m.mu.sema] : List Value) ++ (aU32 a0.table ++ (([.int .i64 a0.calls.v] : List Value)))] : List (List Value)))]) Try.func25 rfl Try.ntmps25 (Nat.le_of_ble_eq_true rfl) (hg.start rfl) ?_
  refine GS.conv (env' := [(0, .pointer (some ⟨a0b, 0, none⟩)), (1, .int .u32 a1), (2, .int .u32 a2), (3, .int .u32 a3)]) rfl rfl ?_
  refine GS.seq ?_
  refine GS.region (env' := fun fr1 => [(0, .pointer (some ⟨a0b, 0, none⟩)), (5, .pointer (some ⟨(fr1 0).x, 0, none⟩)), (6, .pointer (some ⟨(fr1 1).x, 0, none⟩)), (7, .pointer (some ⟨(fr1 2).x, 0, none⟩))]) (mem' := fun fr1 => [(1, .rd (some ⟨a0b, 0, none⟩) (List.length (([.int .u32 a0.once.done.v, .int .i32 a0.once.m.mu.state, .int .u32 a0.once.m.mu.sema] : List Value) ++ (aU32 a0.table ++ (([.int .i64 a0.calls.v] : List Value))))) ([([.int .u32 a0.once.done.v, .int .i32 a0.once.m.mu.state, .int .u32 a0.once.m.mu.sema] : List Value) ++ (aU32 a0.table ++ (([.int .i64 a0.calls.v] : List Value)))] : List (List Value))), (2, .cells ((fr1 0).x) 28 [.int .u32 a1]), (3, .cells ((fr1 1).x) 28 [.int .u32 a2]), (4, .cells ((fr1 2).x) 28 [.int .u32 a3])]) (RunsTo.mk [(0, { act := .new .var, key := some 2 }), (1, { act := .new .var, key := some 3 }), (2, { act := .new .var, key := some 4 })] [0, 5, 6, 7] [1, 2, 3, 4] (fun fr1 => []) (fun fr1 => by kernel_rfl) (fun fr1 => trivial)) ?_
  intro fr1
  refine GS.seq ?_
  refine GS.seq ?_
  refine GS.region (env' := fun _ => [(5, .pointer (some ⟨(fr1 0).x, 0, none⟩)), (6, .pointer (some ⟨(fr1 1).x, 0, none⟩)), (7, .pointer (some ⟨(fr1 2).x, 0, none⟩)), (13, .bool false)]) (mem' := fun _ => [(2, .cells ((fr1 0).x) 28 [.int .u32 a1]), (3, .cells ((fr1 1).x) 28 [.int .u32 a2]), (4, .cells ((fr1 2).x) 28 [.int .u32 a3])]) (RunsTo.mk [] [5, 6, 7, 13] [2, 3, 4] (fun _ => []) (fun _ => by kernel_rfl) (fun _ => trivial)) ?_
  intro _
  refine GS.cond (t := false) rfl rfl (fun hf => by cases hf) (fun _ => ?_)
  refine GS.skip ?_
  refine GS.seq ?_
  refine GS.region (env' := fun fr3 => [(5, .pointer (some ⟨(fr1 0).x, 0, none⟩)), (6, .pointer (some ⟨(fr1 1).x, 0, none⟩)), (7, .pointer (some ⟨(fr1 2).x, 0, none⟩)), (9, .pointer (some ⟨(fr3 6).x, 0, none⟩))]) (mem' := fun fr3 => [(2, .cells ((fr1 0).x) 28 [.int .u32 a1]), (3, .cells ((fr1 1).x) 28 [.int .u32 a2]), (4, .cells ((fr1 2).x) 28 [.int .u32 a3]), (5, .cells ((fr3 6).x) 28 [.int .u32 (ixor .u32 (ixor .u32 (ixor .u32 1315423911 a1) a2) a3)])]) (RunsTo.mk [(0, { act := .load 2 0 0 [] }), (2, { act := .load 3 0 0 [] }), (4, { act := .load 4 0 0 [] }), (6, { act := .new .var, key := some 5 }), (7, { act := .store 0 0 [], key := some 5 })] [5, 6, 7, 9] [2, 3, 4, 5] (fun fr3 => [(fr1 0).x = (fr1 0).x, (fr1 1).x = (fr1 1).x, (fr1 2).x = (fr1 2).x, (fr3 6).x = (fr3 6).x, ((.int .u32 (ixor .u32 (ixor .u32 (ixor .u32 1315423911 a1) a2) a3)) : Value).cells.toList.all Value.oneCell' = true]) (fun fr3 => by kernel_rfl) (fun fr3 => ⟨rfl, rfl, rfl, rfl, rfl, trivial⟩)) ?_
  intro fr3
  refine GS.seq ?_
  refine GS.region (env' := fun fr4 => [(5, .pointer (some ⟨(fr1 0).x, 0, none⟩)), (6, .pointer (some ⟨(fr1 1).x, 0, none⟩)), (7, .pointer (some ⟨(fr1 2).x, 0, none⟩)), (9, .pointer (some ⟨(fr3 6).x, 0, none⟩)), (10, .pointer (some ⟨(fr4 0).x, 0, none⟩)), (11, .pointer (some ⟨(fr4 1).x, 0, none⟩))]) (mem' := fun fr4 => [(2, .cells ((fr1 0).x) 28 [.int .u32 a1]), (3, .cells ((fr1 1).x) 28 [.int .u32 a2]), (4, .cells ((fr1 2).x) 28 [.int .u32 a3]), (5, .cells ((fr3 6).x) 28 [.int .u32 (ixor .u32 (ixor .u32 (ixor .u32 1315423911 a1) a2) a3)]), (6, .cells ((fr4 0).x) 28 [.int .u32 231232]), (7, .cells ((fr4 1).x) 28 [.int .u32 1232])]) (RunsTo.mk [(0, { act := .new .var, key := some 6 }), (1, { act := .new .var, key := some 7 }), (2, { act := .store 0 0 [], key := some 6 }), (3, { act := .store 0 0 [], key := some 7 })] [5, 6, 7, 9, 10, 11] [2, 3, 4, 5, 6, 7] (fun fr4 => [(fr4 0).x = (fr4 0).x, ((.int .u32 231232) : Value).cells.toList.all Value.oneCell' = true, (fr4 1).x = (fr4 1).x, ((.int .u32 1232) : Value).cells.toList.all Value.oneCell' = true]) (fun fr4 => by kernel_rfl) (fun fr4 => ⟨rfl, rfl, rfl, rfl, trivial⟩)) ?_
  intro fr4
  refine GS.seq ?_
  refine bnd_elim hm (fun y6 e7 hm => ?_)
  refine GS.open_ ?_
  refine GR.callG (X := Unit) (i := 0) (g := 41) (args := #[.pointer (some ⟨(fr1 0).x, 0, none⟩), .pointer (some ⟨(fr1 1).x, 0, none⟩), .pointer (some ⟨(fr3 6).x, 0, none⟩)]) (v := fun (_ : Unit) => .tuple #[]) (own := [.cells ((fr1 0).x) 28 [.int .u32 a1], .cells ((fr1 1).x) 28 [.int .u32 a2], .cells ((fr3 6).x) 28 [.int .u32 (ixor .u32 (ixor .u32 (ixor .u32 1315423911 a1) a2) a3)]]) (ro := []) (es' := fun (_ : Unit) => [.cells ((fr1 0).x) 28 [.int .u32 y6.1], .cells ((fr1 1).x) 28 [.int .u32 y6.2.1], .cells ((fr3 6).x) 28 [.int .u32 y6.2.2]]) (mem' := fun (_ : Unit) => [(2, .cells ((fr1 0).x) 28 [.int .u32 y6.1]), (3, .cells ((fr1 1).x) 28 [.int .u32 y6.2.1]), (4, .cells ((fr1 2).x) 28 [.int .u32 a3]), (5, .cells ((fr3 6).x) 28 [.int .u32 y6.2.2]), (6, .cells ((fr4 0).x) 28 [.int .u32 231232]), (7, .cells ((fr4 1).x) 28 [.int .u32 1232])]) (env' := fun (_ : Unit) => [(5, .pointer (some ⟨(fr1 0).x, 0, none⟩)), (6, .pointer (some ⟨(fr1 1).x, 0, none⟩)), (7, .pointer (some ⟨(fr1 2).x, 0, none⟩)), (9, .pointer (some ⟨(fr3 6).x, 0, none⟩)), (10, .pointer (some ⟨(fr4 0).x, 0, none⟩)), (11, .pointer (some ⟨(fr4 1).x, 0, none⟩))]) [2, 3, 5] [2, 3, 5] [5, 6, 7, 9, 10, 11] [2, 3, 4, 5, 6, 7] false (by kernel_rfl) (by kernel_rfl) (by kernel_rfl) (by kernel_rfl) (by kernel_rfl) (fun _ => rfl) (fun _ _ => rfl) trivial (by rintro _; kernel_rfl) (by rintro _; kernel_rfl) (w_digest_mix F (fr1 0).x a1 (fr1 1).x a2 (fr3 6).x (ixor .u32 (ixor .u32 (ixor .u32 1315423911 a1) a2) a3) e7) ?_
  rintro _
  refine GR.done (Nat.le_of_ble_eq_true (by kernel_rfl)) ?_
  refine GS.seq ?_
  refine bnd_elim hm (fun y10 e11 hm => ?_)
  refine GS.open_ ?_
  refine GR.callG (X := Unit) (i := 0) (g := 41) (args := #[.pointer (some ⟨(fr1 2).x, 0, none⟩), .pointer (some ⟨(fr4 0).x, 0, none⟩), .pointer (some ⟨(fr3 6).x, 0, none⟩)]) (v := fun (_ : Unit) => .tuple #[]) (own := [.cells ((fr1 2).x) 28 [.int .u32 a3], .cells ((fr4 0).x) 28 [.int .u32 231232], .cells ((fr3 6).x) 28 [.int .u32 y6.2.2]]) (ro := []) (es' := fun (_ : Unit) => [.cells ((fr1 2).x) 28 [.int .u32 y10.1], .cells ((fr4 0).x) 28 [.int .u32 y10.2.1], .cells ((fr3 6).x) 28 [.int .u32 y10.2.2]]) (mem' := fun (_ : Unit) => [(2, .cells ((fr1 0).x) 28 [.int .u32 y6.1]), (3, .cells ((fr1 1).x) 28 [.int .u32 y6.2.1]), (4, .cells ((fr1 2).x) 28 [.int .u32 y10.1]), (5, .cells ((fr3 6).x) 28 [.int .u32 y10.2.2]), (6, .cells ((fr4 0).x) 28 [.int .u32 y10.2.1]), (7, .cells ((fr4 1).x) 28 [.int .u32 1232])]) (env' := fun (_ : Unit) => [(5, .pointer (some ⟨(fr1 0).x, 0, none⟩)), (6, .pointer (some ⟨(fr1 1).x, 0, none⟩)), (7, .pointer (some ⟨(fr1 2).x, 0, none⟩)), (9, .pointer (some ⟨(fr3 6).x, 0, none⟩)), (10, .pointer (some ⟨(fr4 0).x, 0, none⟩)), (11, .pointer (some ⟨(fr4 1).x, 0, none⟩))]) [4, 6, 5] [4, 6, 5] [5, 6, 7, 9, 10, 11] [2, 3, 4, 5, 6, 7] false (by kernel_rfl) (by kernel_rfl) (by kernel_rfl) (by kernel_rfl) (by kernel_rfl) (fun _ => rfl) (fun _ _ => rfl) trivial (by rintro _; kernel_rfl) (by rintro _; kernel_rfl) (w_digest_mix F (fr1 2).x a3 (fr4 0).x 231232 (fr3 6).x y6.2.2 e11) ?_
  rintro _
  refine GR.done (Nat.le_of_ble_eq_true (by kernel_rfl)) ?_
  refine GS.seq ?_
  refine bnd_elim hm (fun y14 e15 hm => ?_)
  refine GS.open_ ?_
  refine GR.callG (X := Unit) (i := 0) (g := 41) (args := #[.pointer (some ⟨(fr4 1).x, 0, none⟩), .pointer (some ⟨(fr1 0).x, 0, none⟩), .pointer (some ⟨(fr3 6).x, 0, none⟩)]) (v := fun (_ : Unit) => .tuple #[]) (own := [.cells ((fr4 1).x) 28 [.int .u32 1232], .cells ((fr1 0).x) 28 [.int .u32 y6.1], .cells ((fr3 6).x) 28 [.int .u32 y10.2.2]]) (ro := []) (es' := fun (_ : Unit) => [.cells ((fr4 1).x) 28 [.int .u32 y14.1], .cells ((fr1 0).x) 28 [.int .u32 y14.2.1], .cells ((fr3 6).x) 28 [.int .u32 y14.2.2]]) (mem' := fun (_ : Unit) => [(2, .cells ((fr1 0).x) 28 [.int .u32 y14.2.1]), (3, .cells ((fr1 1).x) 28 [.int .u32 y6.2.1]), (4, .cells ((fr1 2).x) 28 [.int .u32 y10.1]), (5, .cells ((fr3 6).x) 28 [.int .u32 y14.2.2]), (6, .cells ((fr4 0).x) 28 [.int .u32 y10.2.1]), (7, .cells ((fr4 1).x) 28 [.int .u32 y14.1])]) (env' := fun (_ : Unit) => [(6, .pointer (some ⟨(fr1 1).x, 0, none⟩)), (7, .pointer (some ⟨(fr1 2).x, 0, none⟩)), (9, .pointer (some ⟨(fr3 6).x, 0, none⟩)), (10, .pointer (some ⟨(fr4 0).x, 0, none⟩)), (11, .pointer (some ⟨(fr4 1).x, 0, none⟩))]) [7, 2, 5] [7, 2, 5] [6, 7, 9, 10, 11] [2, 3, 4, 5, 6, 7] false (by kernel_rfl) (by kernel_rfl) (by kernel_rfl) (by kernel_rfl) (by kernel_rfl) (fun _ => rfl) (fun _ _ => rfl) trivial (by rintro _; kernel_rfl) (by rintro _; kernel_rfl) (w_digest_mix F (fr4 1).x 1232 (fr1 0).x y6.1 (fr3 6).x y10.2.2 e15) ?_
  rintro _
  refine GR.done (Nat.le_of_ble_eq_true (by kernel_rfl)) ?_
  refine GS.seq ?_
  refine bnd_elim hm (fun y18 e19 hm => ?_)
  refine GS.open_ ?_
  refine GR.callG (X := Unit) (i := 0) (g := 41) (args := #[.pointer (some ⟨(fr1 1).x, 0, none⟩), .pointer (some ⟨(fr4 0).x, 0, none⟩), .pointer (some ⟨(fr3 6).x, 0, none⟩)]) (v := fun (_ : Unit) => .tuple #[]) (own := [.cells ((fr1 1).x) 28 [.int .u32 y6.2.1], .cells ((fr4 0).x) 28 [.int .u32 y10.2.1], .cells ((fr3 6).x) 28 [.int .u32 y14.2.2]]) (ro := []) (es' := fun (_ : Unit) => [.cells ((fr1 1).x) 28 [.int .u32 y18.1], .cells ((fr4 0).x) 28 [.int .u32 y18.2.1], .cells ((fr3 6).x) 28 [.int .u32 y18.2.2]]) (mem' := fun (_ : Unit) => [(2, .cells ((fr1 0).x) 28 [.int .u32 y14.2.1]), (3, .cells ((fr1 1).x) 28 [.int .u32 y18.1]), (4, .cells ((fr1 2).x) 28 [.int .u32 y10.1]), (5, .cells ((fr3 6).x) 28 [.int .u32 y18.2.2]), (6, .cells ((fr4 0).x) 28 [.int .u32 y18.2.1]), (7, .cells ((fr4 1).x) 28 [.int .u32 y14.1])]) (env' := fun (_ : Unit) => [(7, .pointer (some ⟨(fr1 2).x, 0, none⟩)), (9, .pointer (some ⟨(fr3 6).x, 0, none⟩)), (11, .pointer (some ⟨(fr4 1).x, 0, none⟩))]) [3, 6, 5] [3, 6, 5] [7, 9, 11] [2, 3, 4, 5, 6, 7] false (by kernel_rfl) (by kernel_rfl) (by kernel_rfl) (by kernel_rfl) (by kernel_rfl) (fun _ => rfl) (fun _ _ => rfl) trivial (by rintro _; kernel_rfl) (by rintro _; kernel_rfl) (w_digest_mix F (fr1 1).x y6.2.1 (fr4 0).x y10.2.1 (fr3 6).x y14.2.2 e19) ?_
  rintro _
  refine GR.done (Nat.le_of_ble_eq_true (by kernel_rfl)) ?_
  refine GS.seq ?_
  refine bnd_elim hm (fun y22 e23 hm => ?_)
  refine GS.open_ ?_
  refine GR.callG (X := Unit) (i := 0) (g := 41) (args := #[.pointer (some ⟨(fr4 1).x, 0, none⟩), .pointer (some ⟨(fr1 2).x, 0, none⟩), .pointer (some ⟨(fr3 6).x, 0, none⟩)]) (v := fun (_ : Unit) => .tuple #[]) (own := [.cells ((fr4 1).x) 28 [.int .u32 y14.1], .cells ((fr1 2).x) 28 [.int .u32 y10.1], .cells ((fr3 6).x) 28 [.int .u32 y18.2.2]]) (ro := []) (es' := fun (_ : Unit) => [.cells ((fr4 1).x) 28 [.int .u32 y22.1], .cells ((fr1 2).x) 28 [.int .u32 y22.2.1], .cells ((fr3 6).x) 28 [.int .u32 y22.2.2]]) (mem' := fun (_ : Unit) => [(2, .cells ((fr1 0).x) 28 [.int .u32 y14.2.1]), (3, .cells ((fr1 1).x) 28 [.int .u32 y18.1]), (4, .cells ((fr1 2).x) 28 [.int .u32 y22.2.1]), (5, .cells ((fr3 6).x) 28 [.int .u32 y22.2.2]), (6, .cells ((fr4 0).x) 28 [.int .u32 y18.2.1]), (7, .cells ((fr4 1).x) 28 [.int .u32 y22.1])]) (env' := fun (_ : Unit) => [(9, .pointer (some ⟨(fr3 6).x, 0, none⟩))]) [7, 4, 5] [7, 4, 5] [9] [2, 3, 4, 5, 6, 7] false (by kernel_rfl) (by kernel_rfl) (by kernel_rfl) (by kernel_rfl) (by kernel_rfl) (fun _ => rfl) (fun _ _ => rfl) trivial (by rintro _; kernel_rfl) (by rintro _; kernel_rfl) (w_digest_mix F (fr4 1).x y14.1 (fr1 2).x y10.1 (fr3 6).x y18.2.2 e23) ?_
  rintro _
  refine GR.done (Nat.le_of_ble_eq_true (by kernel_rfl)) ?_
  refine GS.seq ?_
  refine GS.region (env' := fun _ => [(8, .int .u32 y22.2.2)]) (mem' := fun _ => []) (RunsTo.mk [(0, { act := .load 5 0 0 [] })] [8] [] (fun _ => [(fr3 6).x = (fr3 6).x]) (fun _ => by kernel_rfl) (fun _ => ⟨rfl, trivial⟩)) ?_
  intro _
  have hy := Option.some.inj hm
  subst hy
  refine GS.ret (fn := Try.f25) [0] [.int .u32 y22.2.2] [] rfl Try.func25 (by kernel_rfl) trivial (fun w' hs => ?_)
  exact ⟨(), rfl, hs.turnedG (ks := []) rfl rfl⟩

theorem w_tholeref01_Hash3 (F : Nat) (a0 : Int) (a1 : Int) (a2 : Int) {y : Int} (hm : m_tholeref01_Hash3 F a0 a1 a2 = some y) : CallG Try.prog 26 #[.int .u32 a0, .int .u32 a1, .int .u32 a2] (X := Unit) (fun (_ : Unit) => .int .u32 y) [] [] (fun (_ : Unit) => []) := by
  intro w hg
  rw [m_tholeref01_Hash3] at hm
  refine GS.start (S := mayT [] []) (mem := []) Try.func26 rfl Try.ntmps26 (Nat.le_of_ble_eq_true rfl) (hg.start rfl) ?_
  refine GS.conv (env' := [(0, .int .u32 a0), (1, .int .u32 a1), (2, .int .u32 a2)]) rfl rfl ?_
  refine GS.seq ?_
  refine GS.region (env' := fun _ => [(0, .int .u32 a0), (1, .int .u32 a1), (2, .int .u32 a2)]) (mem' := fun _ => []) (RunsTo.mk [] [0, 1, 2] [] (fun _ => []) (fun _ => by kernel_rfl) (fun _ => trivial)) ?_
  intro _
  refine GS.seq ?_
  refine bnd_elim hm (fun y3 e4 hm => ?_)
  refine GS.region (env' := fun fr2 => [(2, .int .u32 a2), (7, .pointer (some ⟨(fr2 10).x, 0, none⟩))]) (mem' := fun fr2 => [(1, .cells ((fr2 10).x) 74 [.int .u32 y3.A, .int .u32 y3.B, .int .u32 y3.C])]) (RunsTo.mk [(9, { act := .call [] (.agg #[.int .u32 y3.A, .int .u32 y3.B, .int .u32 y3.C]) }), (10, { act := .new .var, key := some 1 }), (11, { act := .store 0 0 [], key := some 1 })] [2, 7] [1] (fun fr2 => [CallOK Try.prog 38 #[.agg #[.int .u32 a0, .int .u32 a1, .int .u32 (ixor .u32 (ixor .u32 (ixor .u32 1315423911 a0) a1) a2)]] (.agg #[.int .u32 y3.A, .int .u32 y3.B, .int .u32 y3.C]) [], (fr2 10).x = (fr2 10).x, ((.agg #[.int .u32 y3.A, .int .u32 y3.B, .int .u32 y3.C]) : Value).cells.toList.all Value.oneCell' = true]) (fun fr2 => by kernel_rfl) (fun fr2 => ⟨(w_tholeref01_Mix F (S_tholeref01_Three.mk a0 a1 (ixor .u32 (ixor .u32 (ixor .u32 1315423911 a0) a1) a2)) e4).ok trivial, rfl, rfl, trivial⟩)) ?_
  intro fr2
  refine GS.seq ?_
  refine bnd_elim hm (fun y6 e7 hm => ?_)
  refine GS.region (env' := fun fr5 => [(7, .pointer (some ⟨(fr2 10).x, 0, none⟩)), (8, .pointer (some ⟨(fr5 5).x, 0, none⟩))]) (mem' := fun fr5 => [(1, .cells ((fr2 10).x) 74 [.int .u32 y3.A, .int .u32 y3.B, .int .u32 y3.C]), (2, .cells ((fr5 5).x) 74 [.int .u32 y6.A, .int .u32 y6.B, .int .u32 y6.C])]) (RunsTo.mk [(2, { act := .load 1 0 0 [] }), (4, { act := .call [] (.agg #[.int .u32 y6.A, .int .u32 y6.B, .int .u32 y6.C]) }), (5, { act := .new .var, key := some 2 }), (6, { act := .store 0 0 [], key := some 2 })] [7, 8] [1, 2] (fun fr5 => [(fr2 10).x = (fr2 10).x, CallOK Try.prog 38 #[.agg #[.int .u32 a2, .int .u32 231232, .int .u32 y3.C]] (.agg #[.int .u32 y6.A, .int .u32 y6.B, .int .u32 y6.C]) [], (fr5 5).x = (fr5 5).x, ((.agg #[.int .u32 y6.A, .int .u32 y6.B, .int .u32 y6.C]) : Value).cells.toList.all Value.oneCell' = true]) (fun fr5 => by kernel_rfl) (fun fr5 => ⟨rfl, (w_tholeref01_Mix F (S_tholeref01_Three.mk a2 231232 y3.C) e7).ok trivial, rfl, rfl, trivial⟩)) ?_
  intro fr5
  refine GS.seq ?_
  refine bnd_elim hm (fun y9 e10 hm => ?_)
  refine GS.region (env' := fun fr8 => [(7, .pointer (some ⟨(fr2 10).x, 0, none⟩)), (8, .pointer (some ⟨(fr5 5).x, 0, none⟩)), (9, .pointer (some ⟨(fr8 6).x, 0, none⟩))]) (mem' := fun fr8 => [(1, .cells ((fr2 10).x) 74 [.int .u32 y3.A, .int .u32 y3.B, .int .u32 y3.C]), (2, .cells ((fr5 5).x) 74 [.int .u32 y6.A, .int .u32 y6.B, .int .u32 y6.C]), (3, .cells ((fr8 6).x) 74 [.int .u32 y9.A, .int .u32 y9.B, .int .u32 y9.C])]) (RunsTo.mk [(1, { act := .load 1 0 0 [] }), (3, { act := .load 2 0 0 [] }), (5, { act := .call [] (.agg #[.int .u32 y9.A, .int .u32 y9.B, .int .u32 y9.C]) }), (6, { act := .new .var, key := some 3 }), (7, { act := .store 0 0 [], key := some 3 })] [7, 8, 9] [1, 2, 3] (fun fr8 => [(fr2 10).x = (fr2 10).x, (fr5 5).x = (fr5 5).x, CallOK Try.prog 38 #[.agg #[.int .u32 1232, .int .u32 y3.A, .int .u32 y6.C]] (.agg #[.int .u32 y9.A, .int .u32 y9.B, .int .u32 y9.C]) [], (fr8 6).x = (fr8 6).x, ((.agg #[.int .u32 y9.A, .int .u32 y9.B, .int .u32 y9.C]) : Value).cells.toList.all Value.oneCell' = true]) (fun fr8 => by kernel_rfl) (fun fr8 => ⟨rfl, rfl, (w_tholeref01_Mix F (S_tholeref01_Three.mk 1232 y3.A y6.C) e10).ok trivial, rfl, rfl, trivial⟩)) ?_
  intro fr8
  refine GS.seq ?_
  refine bnd_elim hm (fun y12 e13 hm => ?_)
  refine GS.region (env' := fun fr11 => [(8, .pointer (some ⟨(fr5 5).x, 0, none⟩)), (9, .pointer (some ⟨(fr8 6).x, 0, none⟩)), (10, .pointer (some ⟨(fr11 8).x, 0, none⟩))]) (mem' := fun fr11 => [(2, .cells ((fr5 5).x) 74 [.int .u32 y6.A, .int .u32 y6.B, .int .u32 y6.C]), (3, .cells ((fr8 6).x) 74 [.int .u32 y9.A, .int .u32 y9.B, .int .u32 y9.C]), (4, .cells ((fr11 8).x) 74 [.int .u32 y12.A, .int .u32 y12.B, .int .u32 y12.C])]) (RunsTo.mk [(1, { act := .load 1 0 0 [] }), (3, { act := .load 2 0 0 [] }), (5, { act := .load 3 0 0 [] }), (7, { act := .call [] (.agg #[.int .u32 y12.A, .int .u32 y12.B, .int .u32 y12.C]) }), (8, { act := .new .var, key := some 4 }), (9, { act := .store 0 0 [], key := some 4 })] [8, 9, 10] [2, 3, 4] (fun fr11 => [(fr2 10).x = (fr2 10).x, (fr5 5).x = (fr5 5).x, (fr8 6).x = (fr8 6).x, CallOK Try.prog 38 #[.agg #[.int .u32 y3.B, .int .u32 y6.B, .int .u32 y9.C]] (.agg #[.int .u32 y12.A, .int .u32 y12.B, .int .u32 y12.C]) [], (fr11 8).x = (fr11 8).x, ((.agg #[.int .u32 y12.A, .int .u32 y12.B, .int .u32 y12.C]) : Value).cells.toList.all Value.oneCell' = true]) (fun fr11 => by kernel_rfl) (fun fr11 => ⟨rfl, rfl, rfl, (w_tholeref01_Mix F (S_tholeref01_Three.mk y3.B y6.B y9.C) e13).ok trivial, rfl, rfl, trivial⟩)) ?_
  intro fr11
  refine GS.seq ?_
  refine bnd_elim hm (fun y15 e16 hm => ?_)
  refine GS.region (env' := fun _ => [(6, .int .u32 y15.C)]) (mem' := fun _ => []) (RunsTo.mk [(1, { act := .load 3 0 0 [] }), (3, { act := .load 2 0 0 [] }), (5, { act := .load 4 0 0 [] }), (7, { act := .call [] (.agg #[.int .u32 y15.A, .int .u32 y15.B, .int .u32 y15.C]) })] [6] [] (fun _ => [(fr8 6).x = (fr8 6).x, (fr5 5).x = (fr5 5).x, (fr11 8).x = (fr11 8).x, CallOK Try.prog 38 #[.agg #[.int .u32 y9.A, .int .u32 y6.A, .int .u32 y12.C]] (.agg #[.int .u32 y15.A, .int .u32 y15.B, .int .u32 y15.C]) []]) (fun _ => by kernel_rfl) (fun _ => ⟨rfl, rfl, rfl, (w_tholeref01_Mix F (S_tholeref01_Three.mk y9.A y6.A y12.C) e16).ok trivial, trivial⟩)) ?_
  intro _
  have hy := Option.some.inj hm
  subst hy
  refine GS.ret (fn := Try.f26) [0] [.int .u32 y15.C] [] rfl Try.func26 (by kernel_rfl) trivial (fun w' hs => ?_)
  exact ⟨(), rfl, hs.turnedG (ks := []) rfl rfl⟩

theorem w___digest_Engine__Calls (F : Nat) (a0b : Nat) (a0 : S_digest_Engine) {y : Int × S_digest_Engine} (hm : m___digest_Engine__Calls F a0 = some y) : CallG Try.prog 17 #[.pointer (some ⟨a0b, 0, none⟩)] (X := Unit) (fun (_ : Unit) => .int .i64 y.1) [.cells a0b 60 (([.int .u32 a0.once.done.v, .int .i32 a0.once.m.mu.state, .int .u32 a0.once.m.mu.sema] : List Value) ++ (aU32 a0.table ++ (([.int .i64 a0.calls.v] : List Value))))] [] (fun (_ : Unit) => [.cells a0b 60 (([.int .u32 y.2.once.done.v, .int .i32 y.2.once.m.mu.state, .int .u32 y.2.once.m.mu.sema] : List Value) ++ (aU32 y.2.table ++ (([.int .i64 y.2.calls.v] : List Value))))]) := by
  intro w hg
  rw [m___digest_Engine__Calls] at hm
  refine GS.start (S := mayT [.cells a0b 60 (([.int .u32 a0.once.done.v, .int .i32 a0.once.m.mu.state, .int .u32 a0.once.m.mu.sema] : List Value) ++ (aU32 a0.table ++ (([.int .i64 a0.calls.v] : List Value))))] []) (mem := [(1, .cells a0b 60 (([.int .u32 a0.once.done.v, .int .i32 a0.once.m.mu.state, .int .u32 a0.once.m.mu.sema] : List Value) ++ (aU32 a0.table ++ (([.int .i64 a0.calls.v] : List Value)))))]) Try.func17 rfl Try.ntmps17 (Nat.le_of_ble_eq_true rfl) (hg.start rfl) ?_
  refine GS.conv (env' := [(0, .pointer (some ⟨a0b, 0, none⟩))]) rfl rfl ?_
  refine GS.seq ?_
  refine GS.region (env' := fun _ => [(0, .pointer (some ⟨a0b, 0, none⟩))]) (mem' := fun _ => [(1, .cells a0b 60 (([.int .u32 a0.once.done.v, .int .i32 a0.once.m.mu.state, .int .u32 a0.once.m.mu.sema] : List Value) ++ (aU32 a0.table ++ (([.int .i64 a0.calls.v] : List Value)))))]) (RunsTo.mk [] [0] [1] (fun _ => []) (fun _ => by kernel_rfl) (fun _ => trivial)) ?_
  intro _
  refine GS.seq ?_
  refine GS.seq ?_
  refine GS.region (env' := fun _ => [(0, .pointer (some ⟨a0b, 0, none⟩)), (4, .bool false)]) (mem' := fun _ => [(1, .cells a0b 60 (([.int .u32 a0.once.done.v, .int .i32 a0.once.m.mu.state, .int .u32 a0.once.m.mu.sema] : List Value) ++ (aU32 a0.table ++ (([.int .i64 a0.calls.v] : List Value)))))]) (RunsTo.mk [] [0, 4] [1] (fun _ => []) (fun _ => by kernel_rfl) (fun _ => trivial)) ?_
  intro _
  refine GS.cond (t := false) rfl rfl (fun hf => by cases hf) (fun _ => ?_)
  refine GS.skip ?_
  refine GS.seq ?_
  refine grd_elim hm (fun g4 hm => ?_)
  refine GS.open_ ?_
  refine GR.run (i := 0) 3 (env' := fun _ => [(7, .pointer (some ⟨a0b, 259, none⟩))]) (mem' := fun _ => [(1, .cells a0b 60 (([.int .u32 a0.once.done.v, .int .i32 a0.once.m.mu.state, .int .u32 a0.once.m.mu.sema] : List Value) ++ (aU32 a0.table ++ (([.int .i64 a0.calls.v] : List Value)))))]) (Nat.le_of_ble_eq_true (by kernel_rfl)) (RunsTo.mk [] [7] [1] (fun _ => []) (fun _ => by kernel_rfl) (fun _ => trivial)) ?_
  intro _
  refine GR.callG (X := Unit) (i := 3) (g := 35) (args := #[.pointer (some ⟨a0b, 259, none⟩)]) (v := fun (_ : Unit) => .int .i64 a0.calls.v) (own := [.cells a0b 60 (([.int .u32 a0.once.done.v, .int .i32 a0.once.m.mu.state, .int .u32 a0.once.m.mu.sema] : List Value) ++ (aU32 a0.table ++ (([.int .i64 a0.calls.v] : List Value))))]) (ro := []) (es' := fun (_ : Unit) => [.cells a0b 60 (([.int .u32 a0.once.done.v, .int .i32 a0.once.m.mu.state, .int .u32 a0.once.m.mu.sema] : List Value) ++ (aU32 a0.table ++ (([.int .i64 a0.calls.v] : List Value))))]) (mem' := fun (_ : Unit) => [(1, .cells a0b 60 (([.int .u32 a0.once.done.v, .int .i32 a0.once.m.mu.state, .int .u32 a0.once.m.mu.sema] : List Value) ++ (aU32 a0.table ++ (([.int .i64 a0.calls.v] : List Value)))))]) (env' := fun (_ : Unit) => [(8, .int .i64 a0.calls.v)]) [1] [1] [8] [1] false (by kernel_rfl) (by kernel_rfl) (by kernel_rfl) (by kernel_rfl) (by kernel_rfl) (fun _ => rfl) (fun _ _ => rfl) trivial (by rintro _; kernel_rfl) (by rintro _; kernel_rfl) (load_ok a0b a0.once.done.v a0.once.m.mu.state a0.once.m.mu.sema a0.table a0.calls.v g4) ?_
  rintro _
  refine GR.run (i := 4) 1 (env' := fun _ => [(2, .int .i64 a0.calls.v)]) (mem' := fun _ => [(1, .cells a0b 60 (([.int .u32 a0.once.done.v, .int .i32 a0.once.m.mu.state, .int .u32 a0.once.m.mu.sema] : List Value) ++ (aU32 a0.table ++ (([.int .i64 a0.calls.v] : List Value)))))]) (Nat.le_of_ble_eq_true (by kernel_rfl)) (RunsTo.mk [] [2] [1] (fun _ => []) (fun _ => by kernel_rfl) (fun _ => trivial)) ?_
  intro _
  refine GR.done (Nat.le_of_ble_eq_true (by kernel_rfl)) ?_
  have hy := Option.some.inj hm
  subst hy
  refine GS.ret (fn := Try.f17) [0] [.int .i64 a0.calls.v] [] rfl Try.func17 (by kernel_rfl) trivial (fun w' hs => ?_)
  exact ⟨(), rfl, hs.turnedG (ks := [1]) rfl rfl⟩

end Go.Proofs.Ytmjlfdllpnkgoaa
