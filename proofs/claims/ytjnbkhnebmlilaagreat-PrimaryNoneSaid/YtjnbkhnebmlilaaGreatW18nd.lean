/-
  CHAPTER 18n: the functions do what their models say (4).
-/
import Derived.Test.YtjnbkhnebmlilaaGreatE18n
import Derived.Test.YtjnbkhnebmlilaaGreatW18nc
set_option linter.unusedVariables false
set_option linter.unusedSimpArgs false
set_option maxRecDepth 100000
set_option maxHeartbeats 8000000
namespace Go.Proofs.YtjnbkhnebmlilaaGreat
open Go Go.RowKit Sx

theorem w_cmp_isNaN_int__2 (F : Nat) {y : Unit} (hm : m_cmp_isNaN_int__2 F = some y) : CallG Tryz.prog 75 #[.int .i64 0] (X := Unit) (fun (_ : Unit) => .bool false) [] [] (fun (_ : Unit) => []) := by
  intro w hg
  rw [m_cmp_isNaN_int__2] at hm
  refine GS.start (S := mayT [] []) (mem := []) Tryz.func75 rfl Tryz.ntmps75 (Nat.le_of_ble_eq_true rfl) (hg.start rfl) ?_
  refine GS.conv (env' := [(0, .int .i64 0)]) rfl rfl ?_
  refine GS.seq ?_
  refine GS.region (env' := fun _ => [(0, .int .i64 0)]) (mem' := fun _ => []) (RunsTo.mk [] [0] [] (fun _ => []) (fun _ => by kernel_rfl) (fun _ => trivial)) ?_
  intro _
  refine GS.seq ?_
  refine GS.region (env' := fun _ => [(2, .bool false)]) (mem' := fun _ => []) (RunsTo.mk [] [2] [] (fun _ => []) (fun _ => by kernel_rfl) (fun _ => trivial)) ?_
  intro _
  have hy := Option.some.inj hm
  subst hy
  refine GS.ret (fn := Tryz.f75) [0] [.bool false] [] rfl Tryz.func75 (by kernel_rfl) trivial (fun w' hs => ?_)
  exact ⟨(), rfl, hs.turnedG (ks := []) rfl rfl⟩

theorem w_cmp_Compare_int_ (F : Nat) {y : Unit} (hm : m_cmp_Compare_int_ F = some y) : CallG Tryz.prog 51 #[.int .i64 3, .int .i64 0] (X := Unit) (fun (_ : Unit) => .int .i64 1) [] [] (fun (_ : Unit) => []) := by
  intro w hg
  rw [m_cmp_Compare_int_] at hm
  refine GS.start (S := mayT [] []) (mem := []) Tryz.func51 rfl Tryz.ntmps51 (Nat.le_of_ble_eq_true rfl) (hg.start rfl) ?_
  refine GS.conv (env' := [(0, .int .i64 3), (1, .int .i64 0)]) rfl rfl ?_
  refine GS.seq ?_
  refine GS.region (env' := fun _ => [(0, .int .i64 3), (1, .int .i64 0)]) (mem' := fun _ => []) (RunsTo.mk [] [0, 1] [] (fun _ => []) (fun _ => by kernel_rfl) (fun _ => trivial)) ?_
  intro _
  refine GS.seq ?_
  refine bnd_elim hm (fun y3 e4 hm => ?_)
  refine GS.region (env' := fun _ => [(0, .int .i64 3), (1, .int .i64 0), (5, .bool false)]) (mem' := fun _ => []) (RunsTo.mk [(1, { act := .call [] (.bool false) })] [0, 1, 5] [] (fun _ => [CallOK Tryz.prog 75 #[.int .i64 3] (.bool false) []]) (fun _ => by kernel_rfl) (fun _ => ⟨(by have h1 := w_cmp_isNaN_int_ F  e4; exact h1.ok trivial), trivial⟩)) ?_
  intro _
  refine GS.seq ?_
  refine bnd_elim hm (fun y6 e7 hm => ?_)
  refine GS.region (env' := fun _ => [(0, .int .i64 3), (1, .int .i64 0), (5, .bool false), (6, .bool false)]) (mem' := fun _ => []) (RunsTo.mk [(1, { act := .call [] (.bool false) })] [0, 1, 5, 6] [] (fun _ => [CallOK Tryz.prog 75 #[.int .i64 0] (.bool false) []]) (fun _ => by kernel_rfl) (fun _ => ⟨(by have h1 := w_cmp_isNaN_int__2 F  e7; exact h1.ok trivial), trivial⟩)) ?_
  intro _
  refine GS.seq ?_
  refine GS.seq ?_
  refine GS.region (env' := fun _ => [(0, .int .i64 3), (1, .int .i64 0), (6, .bool false), (11, .bool false)]) (mem' := fun _ => []) (RunsTo.mk [] [0, 1, 6, 11] [] (fun _ => []) (fun _ => by kernel_rfl) (fun _ => trivial)) ?_
  intro _
  refine GS.cond (t := false) rfl rfl (fun hf => by cases hf) (fun _ => ?_)
  refine GS.skip ?_
  refine GS.seq ?_
  refine GS.seq ?_
  refine GS.region (env' := fun _ => [(0, .int .i64 3), (1, .int .i64 0), (13, .bool false)]) (mem' := fun _ => []) (RunsTo.mk [] [0, 1, 13] [] (fun _ => []) (fun _ => by kernel_rfl) (fun _ => trivial)) ?_
  intro _
  refine GS.cond (t := false) rfl rfl (fun hf => by cases hf) (fun _ => ?_)
  refine GS.skip ?_
  refine GS.seq ?_
  refine GS.seq ?_
  refine GS.region (env' := fun _ => [(0, .int .i64 3), (1, .int .i64 0), (16, .bool false)]) (mem' := fun _ => []) (RunsTo.mk [] [0, 1, 16] [] (fun _ => []) (fun _ => by kernel_rfl) (fun _ => trivial)) ?_
  intro _
  refine GS.cond (t := false) rfl rfl (fun hf => by cases hf) (fun _ => ?_)
  refine GS.skip ?_
  refine GS.seq ?_
  refine GS.seq ?_
  refine GS.region (env' := fun _ => [(19, .bool true)]) (mem' := fun _ => []) (RunsTo.mk [] [19] [] (fun _ => []) (fun _ => by kernel_rfl) (fun _ => trivial)) ?_
  intro _
  refine GS.cond (t := true) rfl rfl (fun _ => ?_) (fun hf => by cases hf)
  refine GS.seq ?_
  refine GS.region (env' := fun _ => [(4, .int .i64 1)]) (mem' := fun _ => []) (RunsTo.mk [] [4] [] (fun _ => []) (fun _ => by kernel_rfl) (fun _ => trivial)) ?_
  intro _
  have hy := Option.some.inj hm
  subst hy
  refine GS.ret (fn := Tryz.f51) [0] [.int .i64 1] [] rfl Tryz.func51 (by kernel_rfl) trivial (fun w' hs => ?_)
  exact ⟨(), rfl, hs.turnedG (ks := []) rfl rfl⟩

theorem w_pglog_Cmp (F : Nat) {y : Unit} (hm : m_pglog_Cmp F = some y) : CallG Tryz.prog 31 #[.agg #[.int .i64 3, .int .i64 1], .agg #[.int .i64 0, .int .i64 0]] (X := Unit) (fun (_ : Unit) => .int .i64 1) [] [] (fun (_ : Unit) => []) := by
  intro w hg
  rw [m_pglog_Cmp] at hm
  refine GS.start (S := mayT [] []) (mem := []) Tryz.func31 rfl Tryz.ntmps31 (Nat.le_of_ble_eq_true rfl) (hg.start rfl) ?_
  refine GS.conv (env' := [(0, .agg #[.int .i64 3, .int .i64 1]), (1, .agg #[.int .i64 0, .int .i64 0])]) rfl rfl ?_
  refine GS.seq ?_
  refine GS.region (env' := fun fr1 => [(2, .pointer (some ⟨(fr1 0).x, 0, none⟩)), (3, .pointer (some ⟨(fr1 1).x, 0, none⟩))]) (mem' := fun fr1 => [(1, .cells ((fr1 0).x) 23 [.int .i64 3, .int .i64 1]), (2, .cells ((fr1 1).x) 23 [.int .i64 0, .int .i64 0])]) (RunsTo.mk [(0, { act := .new .var, key := some 1 }), (1, { act := .new .var, key := some 2 })] [2, 3] [1, 2] (fun fr1 => []) (fun fr1 => by kernel_rfl) (fun fr1 => trivial)) ?_
  intro fr1
  refine GS.seq ?_
  refine GS.seq ?_
  refine bnd_elim hm (fun y3 e4 hm => ?_)
  refine GS.region (env' := fun _ => [(2, .pointer (some ⟨(fr1 0).x, 0, none⟩)), (3, .pointer (some ⟨(fr1 1).x, 0, none⟩)), (5, .int .i64 1)]) (mem' := fun _ => [(1, .cells ((fr1 0).x) 23 [.int .i64 3, .int .i64 1]), (2, .cells ((fr1 1).x) 23 [.int .i64 0, .int .i64 0])]) (RunsTo.mk [(1, { act := .load 1 0 0 [] }), (3, { act := .load 2 0 0 [] }), (4, { act := .call [] (.int .i64 1) })] [2, 3, 5] [1, 2] (fun _ => [(fr1 0).x = (fr1 0).x, (fr1 1).x = (fr1 1).x, CallOK Tryz.prog 51 #[.int .i64 3, .int .i64 0] (.int .i64 1) []]) (fun _ => by kernel_rfl) (fun _ => ⟨rfl, rfl, (by have h1 := w_cmp_Compare_int_ F  e4; exact h1.ok trivial), trivial⟩)) ?_
  intro _
  refine GS.seq ?_
  refine GS.region (env' := fun _ => [(2, .pointer (some ⟨(fr1 0).x, 0, none⟩)), (3, .pointer (some ⟨(fr1 1).x, 0, none⟩)), (5, .int .i64 1), (12, .bool true)]) (mem' := fun _ => [(1, .cells ((fr1 0).x) 23 [.int .i64 3, .int .i64 1]), (2, .cells ((fr1 1).x) 23 [.int .i64 0, .int .i64 0])]) (RunsTo.mk [] [2, 3, 5, 12] [1, 2] (fun _ => []) (fun _ => by kernel_rfl) (fun _ => trivial)) ?_
  intro _
  refine GS.cond (t := true) rfl rfl (fun _ => ?_) (fun hf => by cases hf)
  refine GS.seq ?_
  refine GS.region (env' := fun _ => [(4, .int .i64 1)]) (mem' := fun _ => []) (RunsTo.mk [] [4] [] (fun _ => []) (fun _ => by kernel_rfl) (fun _ => trivial)) ?_
  intro _
  have hy := Option.some.inj hm
  subst hy
  refine GS.ret (fn := Tryz.f31) [0] [.int .i64 1] [] rfl Tryz.func31 (by kernel_rfl) trivial (fun w' hs => ?_)
  exact ⟨(), rfl, hs.turnedG (ks := []) rfl rfl⟩

theorem w_pglog_Copy_3 (F : Nat) (a0_3_o : Option Addr) (a0_3_c : Nat) (a0_4_o : Option Addr) (a0_4_c : Nat) (a0_5_o : Option Addr) (a0_5_c : Nat) {y : Unit} (hm : m_pglog_Copy_3 F = some y) : CallG Tryz.prog 32 #[.agg ((kc16 a0_3_o a0_3_c a0_4_o a0_4_c a0_5_o a0_5_c)).toArray] (X := Option Addr × Nat × Option Addr × Nat × Option Addr × Nat) (fun ⟨x0, x1, x2, x3, x4, x5⟩ => .agg ((kc16 x0 x1 x2 x3 x4 x5)).toArray) [] [.rd a0_3_o 7 [], .rd a0_4_o 5 [], .rd a0_5_o 4 []] (fun ⟨x0, x1, x2, x3, x4, x5⟩ => [.osl x0 x1 31 7 [], .osl x2 x3 94 5 [], .osl x4 x5 91 4 []]) := by
  intro w hg
  rw [m_pglog_Copy_3] at hm
  refine GS.start (S := mayT [] [.rd a0_3_o 7 [], .rd a0_4_o 5 [], .rd a0_5_o 4 []]) (mem := [(1, .rd a0_3_o 7 []), (2, .rd a0_4_o 5 []), (3, .rd a0_5_o 4 [])]) Tryz.func32 rfl Tryz.ntmps32 (Nat.le_of_ble_eq_true rfl) (hg.start rfl) ?_
  refine GS.conv (env' := [(0, .agg ((kc16 a0_3_o a0_3_c a0_4_o a0_4_c a0_5_o a0_5_c)).toArray)]) rfl rfl ?_
  refine GS.seq ?_
  refine GS.region (env' := fun fr1 => [(1, .pointer (some ⟨(fr1 0).x, 0, none⟩)), (2, .pointer (some ⟨(fr1 1).x, 0, none⟩))]) (mem' := fun fr1 => [(1, .rd a0_3_o 7 []), (2, .rd a0_4_o 5 []), (3, .rd a0_5_o 4 []), (4, .cells ((fr1 0).x) 28 (kc16 a0_3_o a0_3_c a0_4_o a0_4_c a0_5_o a0_5_c)), (5, .cells ((fr1 1).x) 28 (kc8))]) (RunsTo.mk [(0, { act := .new .var, key := some 4 }), (1, { act := .new .var, key := some 5 })] [1, 2] [1, 2, 3, 4, 5] (fun fr1 => []) (fun fr1 => by kernel_rfl) (fun fr1 => trivial)) ?_
  intro fr1
  refine GS.seq ?_
  refine GS.region (env' := fun fr2 => [(1, .pointer (some ⟨(fr1 0).x, 0, none⟩)), (2, .pointer (some ⟨(fr1 1).x, 0, none⟩))]) (mem' := fun fr2 => [(2, .rd a0_4_o 5 []), (3, .rd a0_5_o 4 []), (4, .cells ((fr1 0).x) 28 (kc16 ((fr2 2).ob) ((fr2 2).cap) a0_4_o a0_4_c a0_5_o a0_5_c)), (5, .cells ((fr1 1).x) 28 (kc8)), (6, .osl ((fr2 2).ob) ((fr2 2).cap) 31 7 ([] : List (List Value)))]) (RunsTo.mk [(1, { act := .load 4 0 0 [] }), (2, { act := .app (some 1), key := some 6, spf := some (fun f => .slice (f.ob) 0 (f.cap)) }), (4, { act := .store 0 0 [], key := some 4 })] [1, 2] [2, 3, 4, 5, 6] (fun fr2 => [(fr1 0).x = (fr1 0).x, a0_3_o = a0_3_o, 0 = ([] : List (List Value)).length, 0 = 0, 0 = 0, ([] : List (List Value)).length * (64 + 1) ≤ 70368744177664, ((.slice ((fr2 2).ob) (0 + ([] : List (List Value)).length) ((fr2 2).cap)) : Value) = .slice ((fr2 2).ob) 0 ((fr2 2).cap), (fr1 0).x = (fr1 0).x, ((.slice ((fr2 2).ob) 0 ((fr2 2).cap)) : Value).cells.toList.all Value.oneCell' = true]) (fun fr2 => by kernel_rfl) (fun fr2 => ⟨rfl, rfl, rfl, rfl, rfl, (show 0 * (64 + 1) ≤ 70368744177664 by decide), rfl, rfl, rfl, trivial⟩)) ?_
  intro fr2
  refine GS.conv (mem' := [(2, .rd a0_4_o 5 []), (3, .rd a0_5_o 4 []), (4, .cells ((fr1 0).x) 28 (kc16 ((fr2 2).ob) ((fr2 2).cap) a0_4_o a0_4_c a0_5_o a0_5_c)), (5, .cells ((fr1 1).x) 28 (kc8)), (6, .osl ((fr2 2).ob) ((fr2 2).cap) 31 7 [])]) rfl (congrArg (fun rr : List (List Value) => ([(2, .rd a0_4_o 5 []), (3, .rd a0_5_o 4 []), (4, .cells ((fr1 0).x) 28 (kc16 ((fr2 2).ob) ((fr2 2).cap) a0_4_o a0_4_c a0_5_o a0_5_c)), (5, .cells ((fr1 1).x) 28 (kc8)), (6, .osl ((fr2 2).ob) ((fr2 2).cap) 31 7 rr)] : List (Nat × Ent))) (show ([] : List (List Value)) = ([] : List (List Value)) from rfl)) ?_
  refine GS.seq ?_
  refine GS.region (env' := fun fr3 => [(1, .pointer (some ⟨(fr1 0).x, 0, none⟩)), (2, .pointer (some ⟨(fr1 1).x, 0, none⟩))]) (mem' := fun fr3 => [(3, .rd a0_5_o 4 []), (4, .cells ((fr1 0).x) 28 (kc16 ((fr2 2).ob) ((fr2 2).cap) ((fr3 2).ob) ((fr3 2).cap) a0_5_o a0_5_c)), (5, .cells ((fr1 1).x) 28 (kc8)), (6, .osl ((fr2 2).ob) ((fr2 2).cap) 31 7 []), (7, .osl ((fr3 2).ob) ((fr3 2).cap) 94 5 ([] : List (List Value)))]) (RunsTo.mk [(1, { act := .load 4 0 0 [] }), (2, { act := .app (some 2), key := some 7, spf := some (fun f => .slice (f.ob) 0 (f.cap)) }), (4, { act := .store 0 0 [], key := some 4 })] [1, 2] [3, 4, 5, 6, 7] (fun fr3 => [(fr1 0).x = (fr1 0).x, a0_4_o = a0_4_o, 0 = ([] : List (List Value)).length, 0 = 0, 0 = 0, ([] : List (List Value)).length * (40 + 1) ≤ 70368744177664, ((.slice ((fr3 2).ob) (0 + ([] : List (List Value)).length) ((fr3 2).cap)) : Value) = .slice ((fr3 2).ob) 0 ((fr3 2).cap), (fr1 0).x = (fr1 0).x, ((.slice ((fr3 2).ob) 0 ((fr3 2).cap)) : Value).cells.toList.all Value.oneCell' = true]) (fun fr3 => by kernel_rfl) (fun fr3 => ⟨rfl, rfl, rfl, rfl, rfl, (show 0 * (40 + 1) ≤ 70368744177664 by decide), rfl, rfl, rfl, trivial⟩)) ?_
  intro fr3
  refine GS.conv (mem' := [(3, .rd a0_5_o 4 []), (4, .cells ((fr1 0).x) 28 (kc16 ((fr2 2).ob) ((fr2 2).cap) ((fr3 2).ob) ((fr3 2).cap) a0_5_o a0_5_c)), (5, .cells ((fr1 1).x) 28 (kc8)), (6, .osl ((fr2 2).ob) ((fr2 2).cap) 31 7 []), (7, .osl ((fr3 2).ob) ((fr3 2).cap) 94 5 [])]) rfl (congrArg (fun rr : List (List Value) => ([(3, .rd a0_5_o 4 []), (4, .cells ((fr1 0).x) 28 (kc16 ((fr2 2).ob) ((fr2 2).cap) ((fr3 2).ob) ((fr3 2).cap) a0_5_o a0_5_c)), (5, .cells ((fr1 1).x) 28 (kc8)), (6, .osl ((fr2 2).ob) ((fr2 2).cap) 31 7 []), (7, .osl ((fr3 2).ob) ((fr3 2).cap) 94 5 rr)] : List (Nat × Ent))) (show ([] : List (List Value)) = ([] : List (List Value)) from rfl)) ?_
  refine GS.seq ?_
  refine GS.region (env' := fun fr4 => [(1, .pointer (some ⟨(fr1 0).x, 0, none⟩)), (2, .pointer (some ⟨(fr1 1).x, 0, none⟩))]) (mem' := fun fr4 => [(4, .cells ((fr1 0).x) 28 (kc16 ((fr2 2).ob) ((fr2 2).cap) ((fr3 2).ob) ((fr3 2).cap) ((fr4 2).ob) ((fr4 2).cap))), (5, .cells ((fr1 1).x) 28 (kc8)), (6, .osl ((fr2 2).ob) ((fr2 2).cap) 31 7 []), (7, .osl ((fr3 2).ob) ((fr3 2).cap) 94 5 []), (8, .osl ((fr4 2).ob) ((fr4 2).cap) 91 4 ([] : List (List Value)))]) (RunsTo.mk [(1, { act := .load 4 0 0 [] }), (2, { act := .app (some 3), key := some 8, spf := some (fun f => .slice (f.ob) 0 (f.cap)) }), (4, { act := .store 0 0 [], key := some 4 })] [1, 2] [4, 5, 6, 7, 8] (fun fr4 => [(fr1 0).x = (fr1 0).x, a0_5_o = a0_5_o, 0 = ([] : List (List Value)).length, 0 = 0, 0 = 0, ([] : List (List Value)).length * (40 + 1) ≤ 70368744177664, ((.slice ((fr4 2).ob) (0 + ([] : List (List Value)).length) ((fr4 2).cap)) : Value) = .slice ((fr4 2).ob) 0 ((fr4 2).cap), (fr1 0).x = (fr1 0).x, ((.slice ((fr4 2).ob) 0 ((fr4 2).cap)) : Value).cells.toList.all Value.oneCell' = true]) (fun fr4 => by kernel_rfl) (fun fr4 => ⟨rfl, rfl, rfl, rfl, rfl, (show 0 * (40 + 1) ≤ 70368744177664 by decide), rfl, rfl, rfl, trivial⟩)) ?_
  intro fr4
  refine GS.conv (mem' := [(4, .cells ((fr1 0).x) 28 (kc16 ((fr2 2).ob) ((fr2 2).cap) ((fr3 2).ob) ((fr3 2).cap) ((fr4 2).ob) ((fr4 2).cap))), (5, .cells ((fr1 1).x) 28 (kc8)), (6, .osl ((fr2 2).ob) ((fr2 2).cap) 31 7 []), (7, .osl ((fr3 2).ob) ((fr3 2).cap) 94 5 []), (8, .osl ((fr4 2).ob) ((fr4 2).cap) 91 4 [])]) rfl (congrArg (fun rr : List (List Value) => ([(4, .cells ((fr1 0).x) 28 (kc16 ((fr2 2).ob) ((fr2 2).cap) ((fr3 2).ob) ((fr3 2).cap) ((fr4 2).ob) ((fr4 2).cap))), (5, .cells ((fr1 1).x) 28 (kc8)), (6, .osl ((fr2 2).ob) ((fr2 2).cap) 31 7 []), (7, .osl ((fr3 2).ob) ((fr3 2).cap) 94 5 []), (8, .osl ((fr4 2).ob) ((fr4 2).cap) 91 4 rr)] : List (Nat × Ent))) (show ([] : List (List Value)) = ([] : List (List Value)) from rfl)) ?_
  refine GS.seq ?_
  refine GS.region (env' := fun _ => [(2, .pointer (some ⟨(fr1 1).x, 0, none⟩))]) (mem' := fun _ => [(5, .cells ((fr1 1).x) 28 (kc16 ((fr2 2).ob) ((fr2 2).cap) ((fr3 2).ob) ((fr3 2).cap) ((fr4 2).ob) ((fr4 2).cap))), (6, .osl ((fr2 2).ob) ((fr2 2).cap) 31 7 []), (7, .osl ((fr3 2).ob) ((fr3 2).cap) 94 5 []), (8, .osl ((fr4 2).ob) ((fr4 2).cap) 91 4 [])]) (RunsTo.mk [(0, { act := .load 4 0 0 [] }), (1, { act := .store 0 0 [], key := some 5 })] [2] [5, 6, 7, 8] (fun _ => [(fr1 0).x = (fr1 0).x, (fr1 1).x = (fr1 1).x, ((.agg ((kc16 ((fr2 2).ob) ((fr2 2).cap) ((fr3 2).ob) ((fr3 2).cap) ((fr4 2).ob) ((fr4 2).cap))).toArray) : Value).cells.toList.all Value.oneCell' = true]) (fun _ => by kernel_rfl) (fun _ => ⟨rfl, rfl, rfl, trivial⟩)) ?_
  intro _
  have hy := Option.some.inj hm
  subst hy
  refine GS.ret (fn := Tryz.f32) [5] [.agg ((kc16 ((fr2 2).ob) ((fr2 2).cap) ((fr3 2).ob) ((fr3 2).cap) ((fr4 2).ob) ((fr4 2).cap))).toArray] [(fr1 1).x = (fr1 1).x] rfl Tryz.func32 (by kernel_rfl) ⟨rfl, trivial⟩ (fun w' hs => ?_)
  exact ⟨⟨(fr2 2).ob, (fr2 2).cap, (fr3 2).ob, (fr3 2).cap, (fr4 2).ob, (fr4 2).cap⟩, rfl, hs.turnedG (ks := [6, 7, 8]) rfl rfl⟩

theorem w_slices_BinarySearchFunc___api_Last_api_Last_int_ (F : Nat) (a0_o : Option Addr) (a0_c : Nat) (a2c0b : Nat) {y : Unit} (hm : m_slices_BinarySearchFunc___api_Last_api_Last_int_ F = some y) : CallG Tryz.prog 76 #[.slice a0_o 0 a0_c, .int .i64 5, .func (.func 77) #[] #[.pointer (some ⟨a2c0b, 0, none⟩)]] (X := Unit) (fun (_ : Unit) => .tuple #[.int .i64 0, .bool false]) [] [.rd a0_o 5 [], .rd (some ⟨a2c0b, 0, none⟩) 1 [[.func (.func 53) #[] #[]]]] (fun (_ : Unit) => []) := by
  intro w hg
  rw [m_slices_BinarySearchFunc___api_Last_api_Last_int_] at hm
  refine GS.start (S := mayT [] [.rd a0_o 5 [], .rd (some ⟨a2c0b, 0, none⟩) 1 [[.func (.func 53) #[] #[]]]]) (mem := [(1, .rd a0_o 5 []), (2, .rd (some ⟨a2c0b, 0, none⟩) 1 [[.func (.func 53) #[] #[]]])]) Tryz.func76 rfl Tryz.ntmps76 (Nat.le_of_ble_eq_true rfl) (hg.start rfl) ?_
  refine GS.conv (env' := [(0, .slice a0_o 0 a0_c), (1, .int .i64 5), (2, .func (.func 77) #[] #[.pointer (some ⟨a2c0b, 0, none⟩)])]) rfl rfl ?_
  refine GS.seq ?_
  refine GS.region (env' := fun _ => [(0, .slice a0_o 0 a0_c), (1, .int .i64 5), (2, .func (.func 77) #[] #[.pointer (some ⟨a2c0b, 0, none⟩)])]) (mem' := fun _ => [(1, .rd a0_o 5 []), (2, .rd (some ⟨a2c0b, 0, none⟩) 1 [[.func (.func 53) #[] #[]]])]) (RunsTo.mk [] [0, 1, 2] [1, 2] (fun _ => []) (fun _ => by kernel_rfl) (fun _ => trivial)) ?_
  intro _
  refine GS.seq ?_
  refine GS.region (env' := fun _ => [(0, .slice a0_o 0 a0_c), (1, .int .i64 5), (2, .func (.func 77) #[] #[.pointer (some ⟨a2c0b, 0, none⟩)]), (8, .int .i64 0)]) (mem' := fun _ => [(1, .rd a0_o 5 []), (2, .rd (some ⟨a2c0b, 0, none⟩) 1 [[.func (.func 53) #[] #[]]])]) (RunsTo.mk [] [0, 1, 2, 8] [1, 2] (fun _ => []) (fun _ => by kernel_rfl) (fun _ => trivial)) ?_
  intro _
  refine GS.seq ?_
  refine GS.region (env' := fun _ => [(0, .slice a0_o 0 a0_c), (1, .int .i64 5), (2, .func (.func 77) #[] #[.pointer (some ⟨a2c0b, 0, none⟩)]), (8, .int .i64 0), (9, .int .i64 0), (10, .int .i64 0)]) (mem' := fun _ => [(1, .rd a0_o 5 []), (2, .rd (some ⟨a2c0b, 0, none⟩) 1 [[.func (.func 53) #[] #[]]])]) (RunsTo.mk [] [0, 1, 2, 8, 9, 10] [1, 2] (fun _ => []) (fun _ => by kernel_rfl) (fun _ => trivial)) ?_
  intro _
  refine GS.seq ?_
  refine GS.block ?_
  refine GS.loop ?_
  refine GS.seq ?_
  refine GS.seq ?_
  refine GS.region (env' := fun _ => [(0, .slice a0_o 0 a0_c), (1, .int .i64 5), (2, .func (.func 77) #[] #[.pointer (some ⟨a2c0b, 0, none⟩)]), (8, .int .i64 0), (9, .int .i64 0), (10, .int .i64 0), (17, .bool false)]) (mem' := fun _ => [(1, .rd a0_o 5 []), (2, .rd (some ⟨a2c0b, 0, none⟩) 1 [[.func (.func 53) #[] #[]]])]) (RunsTo.mk [] [0, 1, 2, 8, 9, 10, 17] [1, 2] (fun _ => []) (fun _ => by kernel_rfl) (fun _ => trivial)) ?_
  intro _
  refine GS.cond (t := false) rfl rfl (fun hf => by cases hf) (fun _ => ?_)
  refine GS.exit rfl ?_
  refine GS.seq ?_
  refine GS.region (env' := fun _ => [(6, .int .i64 0), (7, .bool false)]) (mem' := fun _ => []) (RunsTo.mk [] [6, 7] [] (fun _ => []) (fun _ => by kernel_rfl) (fun _ => trivial)) ?_
  intro _
  have hy := Option.some.inj hm
  subst hy
  refine GS.ret (fn := Tryz.f76) [0, 0] [.int .i64 0, .bool false] [] rfl Tryz.func76 (by kernel_rfl) trivial (fun w' hs => ?_)
  exact ⟨(), rfl, hs.turnedG (ks := []) rfl rfl⟩

theorem w_pglog_look_api_Last_int_ (F : Nat) (a0_o : Option Addr) (a0_c : Nat) {y : Unit} (hm : m_pglog_look_api_Last_int_ F = some y) : CallG Tryz.prog 52 #[.slice a0_o 0 a0_c, .func (.func 53) #[] #[], .int .i64 5] (X := Unit) (fun (_ : Unit) => .tuple #[.int .i64 0, .bool false]) [] [.rd a0_o 5 []] (fun (_ : Unit) => []) := by
  intro w hg
  rw [m_pglog_look_api_Last_int_] at hm
  refine GS.start (S := mayT [] [.rd a0_o 5 []]) (mem := [(1, .rd a0_o 5 [])]) Tryz.func52 rfl Tryz.ntmps52 (Nat.le_of_ble_eq_true rfl) (hg.start rfl) ?_
  refine GS.conv (env' := [(0, .slice a0_o 0 a0_c), (1, .func (.func 53) #[] #[]), (2, .int .i64 5)]) rfl rfl ?_
  refine GS.seq ?_
  refine GS.region (env' := fun fr1 => [(0, .slice a0_o 0 a0_c), (2, .int .i64 5), (4, .pointer (some ⟨(fr1 0).x, 0, none⟩))]) (mem' := fun fr1 => [(1, .rd a0_o 5 []), (2, .cells ((fr1 0).x) 115 [.func (.func 53) #[] #[]])]) (RunsTo.mk [(0, { act := .new .var, key := some 2 })] [0, 2, 4] [1, 2] (fun fr1 => []) (fun fr1 => by kernel_rfl) (fun fr1 => trivial)) ?_
  intro fr1
  refine GS.seq ?_
  refine bnd_elim hm (fun y3 e4 hm => ?_)
  refine GS.region (env' := fun _ => [(6, .int .i64 0), (7, .bool false)]) (mem' := fun _ => []) (RunsTo.mk [(3, { act := .call [1, 2] (.tuple #[.int .i64 0, .bool false]) })] [6, 7] [] (fun _ => [CallOK Tryz.prog 76 #[.slice a0_o 0 a0_c, .int .i64 5, .func (.func 77) #[] #[.pointer (some ⟨(fr1 0).x, 0, none⟩)]] (.tuple #[.int .i64 0, .bool false]) [some (.rd a0_o 5 []), some (.cells ((fr1 0).x) 115 [.func (.func 53) #[] #[]])]]) (fun _ => by kernel_rfl) (fun _ => ⟨(by have h1 := w_slices_BinarySearchFunc___api_Last_api_Last_int_ F a0_o a0_c (fr1 0).x e4; exact h1.ok ⟨(.inl ⟨.rd a0_o 5 [], .head _, Cov.refl _⟩), (.inl ⟨.cells ((fr1 0).x) 115 [.func (.func 53) #[] #[]], (.tail _ (.head _)), Cov.cells_rd⟩), trivial⟩), trivial⟩)) ?_
  intro _
  have hy := Option.some.inj hm
  subst hy
  refine GS.ret (fn := Tryz.f52) [0, 0] [.int .i64 0, .bool false] [] rfl Tryz.func52 (by kernel_rfl) trivial (fun w' hs => ?_)
  exact ⟨(), rfl, hs.turnedG (ks := []) rfl rfl⟩

theorem w_slices_Insert___api_Last_api_Last_ (F : Nat) (a0_o : Option Addr) (a0_c : Nat) (a2_o : Option Addr) (a2_c : Nat) (a0_ch : 0 ≤ a0_c) {y : Unit} (hm : m_slices_Insert___api_Last_api_Last_ F = some y) : CallG Tryz.prog 54 #[.slice a0_o 0 a0_c, .int .i64 0, .slice a2_o 1 a2_c] (X := Option Addr × Nat) (fun ⟨x0, x1⟩ => .slice x0 1 x1) [.osl a0_o a0_c 94 5 []] [.rd a2_o 5 [(kc30)]] (fun ⟨x0, x1⟩ => [.osl x0 x1 94 5 [(kc30)]]) := by
  intro w hg
  rw [m_slices_Insert___api_Last_api_Last_] at hm
  refine GS.start (S := mayT [.osl a0_o a0_c 94 5 []] [.rd a2_o 5 [(kc30)]]) (mem := [(1, .osl a0_o a0_c 94 5 []), (2, .rd a2_o 5 [(kc30)])]) Tryz.func54 rfl Tryz.ntmps54 (Nat.le_of_ble_eq_true rfl) (hg.start rfl) ?_
  refine GS.conv (env' := [(0, .slice a0_o 0 a0_c), (1, .int .i64 0), (2, .slice a2_o 1 a2_c)]) rfl rfl ?_
  refine GS.seq ?_
  refine GS.region (env' := fun _ => [(0, .slice a0_o 0 a0_c), (1, .int .i64 0), (2, .slice a2_o 1 a2_c)]) (mem' := fun _ => [(1, .osl a0_o a0_c 94 5 []), (2, .rd a2_o 5 [(kc30)])]) (RunsTo.mk [] [0, 1, 2] [1, 2] (fun _ => []) (fun _ => by kernel_rfl) (fun _ => trivial)) ?_
  intro _
  refine GS.seq ?_
  refine GS.region (env' := fun _ => [(0, .slice a0_o 0 a0_c), (1, .int .i64 0), (2, .slice a2_o 1 a2_c)]) (mem' := fun _ => [(1, .osl a0_o a0_c 94 5 []), (2, .rd a2_o 5 [(kc30)])]) (RunsTo.mk [(2, { act := .cut 0 0 a0_c, sp := some (.slice (cutOb a0_o 0 a0_c 5) 0 (a0_c - 0)) })] [0, 1, 2] [1, 2] (fun _ => [0 = ((0 : Nat) : Int), 0 = 0, a0_c = a0_c, 0 ≤ 0, 0 ≤ a0_c, a0_c ≤ a0_c, (none : Option Operand) = none → (none : Option Operand) = none, ((.slice (if a0_c = 0 then a0_o else (a0_o).map (fun a => a.add (0 * 5))) (0 - 0) (a0_c - 0)) : Value) = .slice (cutOb a0_o 0 a0_c 5) 0 (a0_c - 0)]) (fun _ => by kernel_rfl) (fun _ => ⟨rfl, rfl, rfl, (Nat.le_of_ble_eq_true rfl), a0_ch, (Nat.le_refl _), (by intro h; first | rfl | cases h), rfl, trivial⟩)) ?_
  intro _
  refine GS.seq ?_
  refine GS.region (env' := fun _ => [(0, .slice a0_o 0 a0_c), (1, .int .i64 0), (2, .slice a2_o 1 a2_c), (7, .int .i64 1)]) (mem' := fun _ => [(1, .osl a0_o a0_c 94 5 []), (2, .rd a2_o 5 [(kc30)])]) (RunsTo.mk [] [0, 1, 2, 7] [1, 2] (fun _ => []) (fun _ => by kernel_rfl) (fun _ => trivial)) ?_
  intro _
  refine GS.seq ?_
  refine GS.seq ?_
  refine GS.region (env' := fun _ => [(0, .slice a0_o 0 a0_c), (1, .int .i64 0), (2, .slice a2_o 1 a2_c), (7, .int .i64 1), (16, .bool false)]) (mem' := fun _ => [(1, .osl a0_o a0_c 94 5 []), (2, .rd a2_o 5 [(kc30)])]) (RunsTo.mk [] [0, 1, 2, 7, 16] [1, 2] (fun _ => []) (fun _ => by kernel_rfl) (fun _ => trivial)) ?_
  intro _
  refine GS.cond (t := false) rfl rfl (fun hf => by cases hf) (fun _ => ?_)
  refine GS.skip ?_
  refine GS.seq ?_
  refine GS.region (env' := fun _ => [(0, .slice a0_o 0 a0_c), (1, .int .i64 0), (2, .slice a2_o 1 a2_c), (7, .int .i64 1), (8, .int .i64 0)]) (mem' := fun _ => [(1, .osl a0_o a0_c 94 5 []), (2, .rd a2_o 5 [(kc30)])]) (RunsTo.mk [] [0, 1, 2, 7, 8] [1, 2] (fun _ => []) (fun _ => by kernel_rfl) (fun _ => trivial)) ?_
  intro _
  refine GS.seq ?_
  refine GS.seq ?_
  refine GS.region (env' := fun _ => [(0, .slice a0_o 0 a0_c), (1, .int .i64 0), (2, .slice a2_o 1 a2_c), (7, .int .i64 1), (8, .int .i64 0), (22, .bool true)]) (mem' := fun _ => [(1, .osl a0_o a0_c 94 5 []), (2, .rd a2_o 5 [(kc30)])]) (RunsTo.mk [] [0, 1, 2, 7, 8, 22] [1, 2] (fun _ => []) (fun _ => by kernel_rfl) (fun _ => trivial)) ?_
  intro _
  refine GS.cond (t := true) rfl rfl (fun _ => ?_) (fun hf => by cases hf)
  refine GS.seq ?_
  refine GS.region (env' := fun fr7 => [(6, .slice ((fr7 2).ob) 1 ((fr7 2).cap))]) (mem' := fun fr7 => [(1, .osl ((fr7 2).ob) ((fr7 2).cap) 94 5 (([] : List (List Value)) ++ ([(kc30)] : List (List Value))))]) (RunsTo.mk [(2, { act := .app (some 2), key := some 1, spf := some (fun f => .slice (f.ob) 1 (f.cap)) })] [6] [1] (fun fr7 => [a2_o = a2_o, 1 = ([(kc30)] : List (List Value)).length, a0_o = a0_o, a0_c = a0_c, 0 = ([] : List (List Value)).length, (([] : List (List Value)).length + ([(kc30)] : List (List Value)).length) * (40 + 1) ≤ 70368744177664, ([(kc30)] : List (List Value)).flatten.all Value.oneCell' = true, ((.slice ((fr7 2).ob) (0 + ([(kc30)] : List (List Value)).length) ((fr7 2).cap)) : Value) = .slice ((fr7 2).ob) 1 ((fr7 2).cap)]) (fun fr7 => by kernel_rfl) (fun fr7 => ⟨rfl, rfl, rfl, rfl, rfl, (show (0 + 1) * (40 + 1) ≤ 70368744177664 by decide), rfl, rfl, trivial⟩)) ?_
  intro fr7
  refine GS.conv (mem' := [(1, .osl ((fr7 2).ob) ((fr7 2).cap) 94 5 [(kc30)])]) rfl (congrArg (fun rr : List (List Value) => ([(1, .osl ((fr7 2).ob) ((fr7 2).cap) 94 5 rr)] : List (Nat × Ent))) (show ([] : List (List Value)) ++ ([(kc30)] : List (List Value)) = ([(kc30)] : List (List Value)) from rfl)) ?_
  have hy := Option.some.inj hm
  subst hy
  refine GS.ret (fn := Tryz.f54) [0] [.slice ((fr7 2).ob) 1 ((fr7 2).cap)] [] rfl Tryz.func54 (by kernel_rfl) trivial (fun w' hs => ?_)
  exact ⟨⟨(fr7 2).ob, (fr7 2).cap⟩, rfl, hs.turnedG (ks := [1]) rfl rfl⟩

theorem w_slices_BinarySearchFunc___api_Item_api_Item_string_ (F : Nat) (a0_o : Option Addr) (a0_c : Nat) (a2c0b : Nat) {y : Unit} (hm : m_slices_BinarySearchFunc___api_Item_api_Item_string_ F = some y) : CallG Tryz.prog 80 #[.slice a0_o 0 a0_c, .string (ByteArray.mk #[97]), .func (.func 81) #[] #[.pointer (some ⟨a2c0b, 0, none⟩)]] (X := Unit) (fun (_ : Unit) => .tuple #[.int .i64 0, .bool false]) [] [.rd a0_o 4 [], .rd (some ⟨a2c0b, 0, none⟩) 1 [[.func (.func 56) #[] #[]]]] (fun (_ : Unit) => []) := by
  intro w hg
  rw [m_slices_BinarySearchFunc___api_Item_api_Item_string_] at hm
  refine GS.start (S := mayT [] [.rd a0_o 4 [], .rd (some ⟨a2c0b, 0, none⟩) 1 [[.func (.func 56) #[] #[]]]]) (mem := [(1, .rd a0_o 4 []), (2, .rd (some ⟨a2c0b, 0, none⟩) 1 [[.func (.func 56) #[] #[]]])]) Tryz.func80 rfl Tryz.ntmps80 (Nat.le_of_ble_eq_true rfl) (hg.start rfl) ?_
  refine GS.conv (env' := [(0, .slice a0_o 0 a0_c), (1, .string (ByteArray.mk #[97])), (2, .func (.func 81) #[] #[.pointer (some ⟨a2c0b, 0, none⟩)])]) rfl rfl ?_
  refine GS.seq ?_
  refine GS.region (env' := fun _ => [(0, .slice a0_o 0 a0_c), (1, .string (ByteArray.mk #[97])), (2, .func (.func 81) #[] #[.pointer (some ⟨a2c0b, 0, none⟩)])]) (mem' := fun _ => [(1, .rd a0_o 4 []), (2, .rd (some ⟨a2c0b, 0, none⟩) 1 [[.func (.func 56) #[] #[]]])]) (RunsTo.mk [] [0, 1, 2] [1, 2] (fun _ => []) (fun _ => by kernel_rfl) (fun _ => trivial)) ?_
  intro _
  refine GS.seq ?_
  refine GS.region (env' := fun _ => [(0, .slice a0_o 0 a0_c), (1, .string (ByteArray.mk #[97])), (2, .func (.func 81) #[] #[.pointer (some ⟨a2c0b, 0, none⟩)]), (8, .int .i64 0)]) (mem' := fun _ => [(1, .rd a0_o 4 []), (2, .rd (some ⟨a2c0b, 0, none⟩) 1 [[.func (.func 56) #[] #[]]])]) (RunsTo.mk [] [0, 1, 2, 8] [1, 2] (fun _ => []) (fun _ => by kernel_rfl) (fun _ => trivial)) ?_
  intro _
  refine GS.seq ?_
  refine GS.region (env' := fun _ => [(0, .slice a0_o 0 a0_c), (1, .string (ByteArray.mk #[97])), (2, .func (.func 81) #[] #[.pointer (some ⟨a2c0b, 0, none⟩)]), (8, .int .i64 0), (9, .int .i64 0), (10, .int .i64 0)]) (mem' := fun _ => [(1, .rd a0_o 4 []), (2, .rd (some ⟨a2c0b, 0, none⟩) 1 [[.func (.func 56) #[] #[]]])]) (RunsTo.mk [] [0, 1, 2, 8, 9, 10] [1, 2] (fun _ => []) (fun _ => by kernel_rfl) (fun _ => trivial)) ?_
  intro _
  refine GS.seq ?_
  refine GS.block ?_
  refine GS.loop ?_
  refine GS.seq ?_
  refine GS.seq ?_
  refine GS.region (env' := fun _ => [(0, .slice a0_o 0 a0_c), (1, .string (ByteArray.mk #[97])), (2, .func (.func 81) #[] #[.pointer (some ⟨a2c0b, 0, none⟩)]), (8, .int .i64 0), (9, .int .i64 0), (10, .int .i64 0), (17, .bool false)]) (mem' := fun _ => [(1, .rd a0_o 4 []), (2, .rd (some ⟨a2c0b, 0, none⟩) 1 [[.func (.func 56) #[] #[]]])]) (RunsTo.mk [] [0, 1, 2, 8, 9, 10, 17] [1, 2] (fun _ => []) (fun _ => by kernel_rfl) (fun _ => trivial)) ?_
  intro _
  refine GS.cond (t := false) rfl rfl (fun hf => by cases hf) (fun _ => ?_)
  refine GS.exit rfl ?_
  refine GS.seq ?_
  refine GS.region (env' := fun _ => [(6, .int .i64 0), (7, .bool false)]) (mem' := fun _ => []) (RunsTo.mk [] [6, 7] [] (fun _ => []) (fun _ => by kernel_rfl) (fun _ => trivial)) ?_
  intro _
  have hy := Option.some.inj hm
  subst hy
  refine GS.ret (fn := Tryz.f80) [0, 0] [.int .i64 0, .bool false] [] rfl Tryz.func80 (by kernel_rfl) trivial (fun w' hs => ?_)
  exact ⟨(), rfl, hs.turnedG (ks := []) rfl rfl⟩

theorem w_pglog_look_api_Item_string_ (F : Nat) (a0_o : Option Addr) (a0_c : Nat) {y : Unit} (hm : m_pglog_look_api_Item_string_ F = some y) : CallG Tryz.prog 55 #[.slice a0_o 0 a0_c, .func (.func 56) #[] #[], .string (ByteArray.mk #[97])] (X := Unit) (fun (_ : Unit) => .tuple #[.int .i64 0, .bool false]) [] [.rd a0_o 4 []] (fun (_ : Unit) => []) := by
  intro w hg
  rw [m_pglog_look_api_Item_string_] at hm
  refine GS.start (S := mayT [] [.rd a0_o 4 []]) (mem := [(1, .rd a0_o 4 [])]) Tryz.func55 rfl Tryz.ntmps55 (Nat.le_of_ble_eq_true rfl) (hg.start rfl) ?_
  refine GS.conv (env' := [(0, .slice a0_o 0 a0_c), (1, .func (.func 56) #[] #[]), (2, .string (ByteArray.mk #[97]))]) rfl rfl ?_
  refine GS.seq ?_
  refine GS.region (env' := fun fr1 => [(0, .slice a0_o 0 a0_c), (2, .string (ByteArray.mk #[97])), (4, .pointer (some ⟨(fr1 0).x, 0, none⟩))]) (mem' := fun fr1 => [(1, .rd a0_o 4 []), (2, .cells ((fr1 0).x) 118 [.func (.func 56) #[] #[]])]) (RunsTo.mk [(0, { act := .new .var, key := some 2 })] [0, 2, 4] [1, 2] (fun fr1 => []) (fun fr1 => by kernel_rfl) (fun fr1 => trivial)) ?_
  intro fr1
  refine GS.seq ?_
  refine bnd_elim hm (fun y3 e4 hm => ?_)
  refine GS.region (env' := fun _ => [(6, .int .i64 0), (7, .bool false)]) (mem' := fun _ => []) (RunsTo.mk [(3, { act := .call [1, 2] (.tuple #[.int .i64 0, .bool false]) })] [6, 7] [] (fun _ => [CallOK Tryz.prog 80 #[.slice a0_o 0 a0_c, .string (ByteArray.mk #[97]), .func (.func 81) #[] #[.pointer (some ⟨(fr1 0).x, 0, none⟩)]] (.tuple #[.int .i64 0, .bool false]) [some (.rd a0_o 4 []), some (.cells ((fr1 0).x) 118 [.func (.func 56) #[] #[]])]]) (fun _ => by kernel_rfl) (fun _ => ⟨(by have h1 := w_slices_BinarySearchFunc___api_Item_api_Item_string_ F a0_o a0_c (fr1 0).x e4; exact h1.ok ⟨(.inl ⟨.rd a0_o 4 [], .head _, Cov.refl _⟩), (.inl ⟨.cells ((fr1 0).x) 118 [.func (.func 56) #[] #[]], (.tail _ (.head _)), Cov.cells_rd⟩), trivial⟩), trivial⟩)) ?_
  intro _
  have hy := Option.some.inj hm
  subst hy
  refine GS.ret (fn := Tryz.f55) [0, 0] [.int .i64 0, .bool false] [] rfl Tryz.func55 (by kernel_rfl) trivial (fun w' hs => ?_)
  exact ⟨(), rfl, hs.turnedG (ks := []) rfl rfl⟩

theorem w_slices_Insert___api_Item_api_Item_ (F : Nat) (a0_o : Option Addr) (a0_c : Nat) (a2_o : Option Addr) (a2_c : Nat) (a2_0_3 : Int) (a0_ch : 0 ≤ a0_c) {y : Int} (hm : m_slices_Insert___api_Item_api_Item_ F a2_0_3 = some y) : CallG Tryz.prog 58 #[.slice a0_o 0 a0_c, .int .i64 0, .slice a2_o 1 a2_c] (X := Option Addr × Nat) (fun ⟨x0, x1⟩ => .slice x0 1 x1) [.osl a0_o a0_c 91 4 []] [.rd a2_o 4 [(kc32 a2_0_3)]] (fun ⟨x0, x1⟩ => [.osl x0 x1 91 4 [(kc32 y)]]) := by
  intro w hg
  rw [m_slices_Insert___api_Item_api_Item_] at hm
  refine GS.start (S := mayT [.osl a0_o a0_c 91 4 []] [.rd a2_o 4 [(kc32 a2_0_3)]]) (mem := [(1, .osl a0_o a0_c 91 4 []), (2, .rd a2_o 4 [(kc32 a2_0_3)])]) Tryz.func58 rfl Tryz.ntmps58 (Nat.le_of_ble_eq_true rfl) (hg.start rfl) ?_
  refine GS.conv (env' := [(0, .slice a0_o 0 a0_c), (1, .int .i64 0), (2, .slice a2_o 1 a2_c)]) rfl rfl ?_
  refine GS.seq ?_
  refine GS.region (env' := fun _ => [(0, .slice a0_o 0 a0_c), (1, .int .i64 0), (2, .slice a2_o 1 a2_c)]) (mem' := fun _ => [(1, .osl a0_o a0_c 91 4 []), (2, .rd a2_o 4 [(kc32 a2_0_3)])]) (RunsTo.mk [] [0, 1, 2] [1, 2] (fun _ => []) (fun _ => by kernel_rfl) (fun _ => trivial)) ?_
  intro _
  refine GS.seq ?_
  refine GS.region (env' := fun _ => [(0, .slice a0_o 0 a0_c), (1, .int .i64 0), (2, .slice a2_o 1 a2_c)]) (mem' := fun _ => [(1, .osl a0_o a0_c 91 4 []), (2, .rd a2_o 4 [(kc32 a2_0_3)])]) (RunsTo.mk [(2, { act := .cut 0 0 a0_c, sp := some (.slice (cutOb a0_o 0 a0_c 4) 0 (a0_c - 0)) })] [0, 1, 2] [1, 2] (fun _ => [0 = ((0 : Nat) : Int), 0 = 0, a0_c = a0_c, 0 ≤ 0, 0 ≤ a0_c, a0_c ≤ a0_c, (none : Option Operand) = none → (none : Option Operand) = none, ((.slice (if a0_c = 0 then a0_o else (a0_o).map (fun a => a.add (0 * 4))) (0 - 0) (a0_c - 0)) : Value) = .slice (cutOb a0_o 0 a0_c 4) 0 (a0_c - 0)]) (fun _ => by kernel_rfl) (fun _ => ⟨rfl, rfl, rfl, (Nat.le_of_ble_eq_true rfl), a0_ch, (Nat.le_refl _), (by intro h; first | rfl | cases h), rfl, trivial⟩)) ?_
  intro _
  refine GS.seq ?_
  refine GS.region (env' := fun _ => [(0, .slice a0_o 0 a0_c), (1, .int .i64 0), (2, .slice a2_o 1 a2_c), (7, .int .i64 1)]) (mem' := fun _ => [(1, .osl a0_o a0_c 91 4 []), (2, .rd a2_o 4 [(kc32 a2_0_3)])]) (RunsTo.mk [] [0, 1, 2, 7] [1, 2] (fun _ => []) (fun _ => by kernel_rfl) (fun _ => trivial)) ?_
  intro _
  refine GS.seq ?_
  refine GS.seq ?_
  refine GS.region (env' := fun _ => [(0, .slice a0_o 0 a0_c), (1, .int .i64 0), (2, .slice a2_o 1 a2_c), (7, .int .i64 1), (16, .bool false)]) (mem' := fun _ => [(1, .osl a0_o a0_c 91 4 []), (2, .rd a2_o 4 [(kc32 a2_0_3)])]) (RunsTo.mk [] [0, 1, 2, 7, 16] [1, 2] (fun _ => []) (fun _ => by kernel_rfl) (fun _ => trivial)) ?_
  intro _
  refine GS.cond (t := false) rfl rfl (fun hf => by cases hf) (fun _ => ?_)
  refine GS.skip ?_
  refine GS.seq ?_
  refine GS.region (env' := fun _ => [(0, .slice a0_o 0 a0_c), (1, .int .i64 0), (2, .slice a2_o 1 a2_c), (7, .int .i64 1), (8, .int .i64 0)]) (mem' := fun _ => [(1, .osl a0_o a0_c 91 4 []), (2, .rd a2_o 4 [(kc32 a2_0_3)])]) (RunsTo.mk [] [0, 1, 2, 7, 8] [1, 2] (fun _ => []) (fun _ => by kernel_rfl) (fun _ => trivial)) ?_
  intro _
  refine GS.seq ?_
  refine GS.seq ?_
  refine GS.region (env' := fun _ => [(0, .slice a0_o 0 a0_c), (1, .int .i64 0), (2, .slice a2_o 1 a2_c), (7, .int .i64 1), (8, .int .i64 0), (22, .bool true)]) (mem' := fun _ => [(1, .osl a0_o a0_c 91 4 []), (2, .rd a2_o 4 [(kc32 a2_0_3)])]) (RunsTo.mk [] [0, 1, 2, 7, 8, 22] [1, 2] (fun _ => []) (fun _ => by kernel_rfl) (fun _ => trivial)) ?_
  intro _
  refine GS.cond (t := true) rfl rfl (fun _ => ?_) (fun hf => by cases hf)
  refine GS.seq ?_
  refine GS.region (env' := fun fr7 => [(6, .slice ((fr7 2).ob) 1 ((fr7 2).cap))]) (mem' := fun fr7 => [(1, .osl ((fr7 2).ob) ((fr7 2).cap) 91 4 (([] : List (List Value)) ++ ([(kc32 a2_0_3)] : List (List Value))))]) (RunsTo.mk [(2, { act := .app (some 2), key := some 1, spf := some (fun f => .slice (f.ob) 1 (f.cap)) })] [6] [1] (fun fr7 => [a2_o = a2_o, 1 = ([(kc32 a2_0_3)] : List (List Value)).length, a0_o = a0_o, a0_c = a0_c, 0 = ([] : List (List Value)).length, (([] : List (List Value)).length + ([(kc32 a2_0_3)] : List (List Value)).length) * (40 + 1) ≤ 70368744177664, ([(kc32 a2_0_3)] : List (List Value)).flatten.all Value.oneCell' = true, ((.slice ((fr7 2).ob) (0 + ([(kc32 a2_0_3)] : List (List Value)).length) ((fr7 2).cap)) : Value) = .slice ((fr7 2).ob) 1 ((fr7 2).cap)]) (fun fr7 => by kernel_rfl) (fun fr7 => ⟨rfl, rfl, rfl, rfl, rfl, (show (0 + 1) * (40 + 1) ≤ 70368744177664 by decide), rfl, rfl, trivial⟩)) ?_
  intro fr7
  refine GS.conv (mem' := [(1, .osl ((fr7 2).ob) ((fr7 2).cap) 91 4 [(kc32 a2_0_3)])]) rfl (congrArg (fun rr : List (List Value) => ([(1, .osl ((fr7 2).ob) ((fr7 2).cap) 91 4 rr)] : List (Nat × Ent))) (show ([] : List (List Value)) ++ ([(kc32 a2_0_3)] : List (List Value)) = ([(kc32 a2_0_3)] : List (List Value)) from rfl)) ?_
  have hy := Option.some.inj hm
  subst hy
  refine GS.ret (fn := Tryz.f58) [0] [.slice ((fr7 2).ob) 1 ((fr7 2).cap)] [] rfl Tryz.func58 (by kernel_rfl) trivial (fun w' hs => ?_)
  exact ⟨⟨(fr7 2).ob, (fr7 2).cap⟩, rfl, hs.turnedG (ks := [1]) rfl rfl⟩

theorem w_pglog_Append (F : Nat) (a0_3_o : Option Addr) (a0_3_c : Nat) (a0_4_o : Option Addr) (a0_4_c : Nat) (a0_5_o : Option Addr) (a0_5_c : Nat) (a2 : Int) {y : Int} (hm : m_pglog_Append F a2 = some y) : CallG Tryz.prog 33 #[.agg ((kc16 a0_3_o a0_3_c a0_4_o a0_4_c a0_5_o a0_5_c)).toArray, .agg ((kc25)).toArray, .int .u32 a2] (X := Option Addr × Nat × Option Addr × Nat × Option Addr × Nat) (fun ⟨x0, x1, x2, x3, x4, x5⟩ => .tuple #[.agg ((kc33 x0 x1 x2 x3 x4 x5)).toArray, .int .i64 0]) [] [.rd a0_3_o 7 [], .rd a0_4_o 5 [], .rd a0_5_o 4 []] (fun ⟨x0, x1, x2, x3, x4, x5⟩ => [.osl x0 x1 31 7 [(kc25)], .osl x2 x3 94 5 [(kc30)], .osl x4 x5 91 4 [(kc32 y)]]) := by
  intro w hg
  rw [m_pglog_Append] at hm
  refine GS.start (S := mayT [] [.rd a0_3_o 7 [], .rd a0_4_o 5 [], .rd a0_5_o 4 []]) (mem := [(1, .rd a0_3_o 7 []), (2, .rd a0_4_o 5 []), (3, .rd a0_5_o 4 [])]) Tryz.func33 rfl Tryz.ntmps33 (Nat.le_of_ble_eq_true rfl) (hg.start rfl) ?_
  refine GS.conv (env' := [(0, .agg ((kc16 a0_3_o a0_3_c a0_4_o a0_4_c a0_5_o a0_5_c)).toArray), (1, .agg ((kc25)).toArray), (2, .int .u32 a2)]) rfl rfl ?_
  refine GS.seq ?_
  refine GS.region (env' := fun fr1 => [(2, .int .u32 a2), (3, .pointer (some ⟨(fr1 0).x, 0, none⟩)), (4, .pointer (some ⟨(fr1 1).x, 0, none⟩)), (6, .pointer (some ⟨(fr1 2).x, 0, none⟩))]) (mem' := fun fr1 => [(1, .rd a0_3_o 7 []), (2, .rd a0_4_o 5 []), (3, .rd a0_5_o 4 []), (4, .cells ((fr1 0).x) 28 (kc16 a0_3_o a0_3_c a0_4_o a0_4_c a0_5_o a0_5_c)), (5, .cells ((fr1 1).x) 31 (kc25)), (6, .cells ((fr1 2).x) 28 (kc8))]) (RunsTo.mk [(0, { act := .new .var, key := some 4 }), (1, { act := .new .var, key := some 5 }), (2, { act := .new .var, key := some 6 })] [2, 3, 4, 6] [1, 2, 3, 4, 5, 6] (fun fr1 => []) (fun fr1 => by kernel_rfl) (fun fr1 => trivial)) ?_
  intro fr1
  refine GS.seq ?_
  refine bnd_elim hm (fun y3 e4 hm => ?_)
  refine GS.region (env' := fun fr2 => [(2, .int .u32 a2), (3, .pointer (some ⟨(fr1 0).x, 0, none⟩)), (4, .pointer (some ⟨(fr1 1).x, 0, none⟩)), (6, .pointer (some ⟨(fr1 2).x, 0, none⟩)), (9, .bool false)]) (mem' := fun fr2 => [(1, .rd a0_3_o 7 []), (2, .rd a0_4_o 5 []), (3, .rd a0_5_o 4 []), (4, .cells ((fr1 0).x) 28 (kc16 a0_3_o a0_3_c a0_4_o a0_4_c a0_5_o a0_5_c)), (5, .cells ((fr1 1).x) 31 (kc25)), (6, .cells ((fr1 2).x) 28 (kc8))]) (RunsTo.mk [(0, { act := .load 4 0 0 [] }), (2, { act := .load 5 0 0 [] }), (3, { act := .call [1, 2, 3] (.tuple #[.agg ((kc24)).toArray, .bool false]) }), (7, { act := .new .var, key := some 7 }), (8, { act := .store 0 0 [], key := some 7 })] [2, 3, 4, 6, 9] [1, 2, 3, 4, 5, 6] (fun fr2 => [(fr1 0).x = (fr1 0).x, (fr1 1).x = (fr1 1).x, CallOK Tryz.prog 37 #[.agg ((kc16 a0_3_o a0_3_c a0_4_o a0_4_c a0_5_o a0_5_c)).toArray, .string (ByteArray.mk #[97])] (.tuple #[.agg ((kc24)).toArray, .bool false]) [some (.rd a0_3_o 7 []), some (.rd a0_4_o 5 []), some (.rd a0_5_o 4 [])], (fr2 7).x = (fr2 7).x, ((.agg ((kc24)).toArray) : Value).cells.toList.all Value.oneCell' = true]) (fun fr2 => by kernel_rfl) (fun fr2 => ⟨rfl, rfl, (by have h1 := w_pglog_Find F a0_3_o a0_3_c a0_4_o a0_4_c a0_5_o a0_5_c e4; exact h1.ok ⟨(.inl ⟨.rd a0_3_o 7 [], .head _, Cov.refl _⟩), (.inl ⟨.rd a0_4_o 5 [], (.tail _ (.head _)), Cov.refl _⟩), (.inl ⟨.rd a0_5_o 4 [], (.tail _ (.tail _ (.head _))), Cov.refl _⟩), trivial⟩), rfl, rfl, trivial⟩)) ?_
  intro fr2
  refine GS.seq ?_
  refine GS.block ?_
  refine GS.seq ?_
  refine bnd_elim hm (fun y6 e7 hm => ?_)
  refine bnd_elim hm (fun y8 e9 hm => ?_)
  refine GS.region (env' := fun _ => [(2, .int .u32 a2), (3, .pointer (some ⟨(fr1 0).x, 0, none⟩)), (4, .pointer (some ⟨(fr1 1).x, 0, none⟩)), (6, .pointer (some ⟨(fr1 2).x, 0, none⟩)), (9, .bool false), (23, .bool false)]) (mem' := fun _ => [(1, .rd a0_3_o 7 []), (2, .rd a0_4_o 5 []), (3, .rd a0_5_o 4 []), (4, .cells ((fr1 0).x) 28 (kc16 a0_3_o a0_3_c a0_4_o a0_4_c a0_5_o a0_5_c)), (5, .cells ((fr1 1).x) 31 (kc25)), (6, .cells ((fr1 2).x) 28 (kc8))]) (RunsTo.mkd [(1, { act := .load 5 0 0 [] }), (2, { act := .load 4 0 0 [] }), (3, { act := .call [1, 2, 3] (.agg #[.int .i64 0, .int .i64 0]) }), (4, { act := .call [] (.int .i64 1) }), (8, { act := .load 5 0 0 [] }), (13, { act := .load 5 0 0 [] })] [2, 3, 4, 6, 9, 23] [1, 2, 3, 4, 5, 6] (fun _ => [(fr1 1).x = (fr1 1).x, (fr1 0).x = (fr1 0).x, CallOK Tryz.prog 30 #[.agg ((kc16 a0_3_o a0_3_c a0_4_o a0_4_c a0_5_o a0_5_c)).toArray] (.agg #[.int .i64 0, .int .i64 0]) [some (.rd a0_3_o 7 []), some (.rd a0_4_o 5 []), some (.rd a0_5_o 4 [])], CallOK Tryz.prog 31 #[.agg #[.int .i64 3, .int .i64 1], .agg #[.int .i64 0, .int .i64 0]] (.int .i64 1) [], (fr1 1).x = (fr1 1).x, (fr1 1).x = (fr1 1).x]) (by kernel_rfl) (by kernel_rfl) (fun _ => by kernel_rfl) (fun _ => ⟨rfl, rfl, (by have h1 := w_pglog_Head F a0_3_o a0_3_c a0_4_o a0_4_c a0_5_o a0_5_c e7; exact h1.ok ⟨(.inl ⟨.rd a0_3_o 7 [], .head _, Cov.refl _⟩), (.inl ⟨.rd a0_4_o 5 [], (.tail _ (.head _)), Cov.refl _⟩), (.inl ⟨.rd a0_5_o 4 [], (.tail _ (.tail _ (.head _))), Cov.refl _⟩), trivial⟩), (by have h1 := w_pglog_Cmp F  e9; exact h1.ok trivial), rfl, rfl, trivial⟩)) ?_
  intro _
  refine GS.cond (t := false) rfl rfl (fun hf => by cases hf) (fun _ => ?_)
  refine GS.seq ?_
  refine bnd_elim hm (fun y11 e12 hm => ?_)
  refine GS.region (env' := fun _ => [(2, .int .u32 a2), (3, .pointer (some ⟨(fr1 0).x, 0, none⟩)), (4, .pointer (some ⟨(fr1 1).x, 0, none⟩)), (6, .pointer (some ⟨(fr1 2).x, 0, none⟩)), (9, .bool false), (41, .bool false)]) (mem' := fun _ => [(1, .rd a0_3_o 7 []), (2, .rd a0_4_o 5 []), (3, .rd a0_5_o 4 []), (4, .cells ((fr1 0).x) 28 (kc16 a0_3_o a0_3_c a0_4_o a0_4_c a0_5_o a0_5_c)), (5, .cells ((fr1 1).x) 31 (kc25)), (6, .cells ((fr1 2).x) 28 (kc8))]) (RunsTo.mk [(1, { act := .load 5 0 0 [] }), (2, { act := .call [] (.bool true) })] [2, 3, 4, 6, 9, 41] [1, 2, 3, 4, 5, 6] (fun _ => [(fr1 1).x = (fr1 1).x, CallOK Tryz.prog 38 #[.string (ByteArray.mk #[97])] (.bool true) []]) (fun _ => by kernel_rfl) (fun _ => ⟨rfl, (by have h1 := w_place_Good F  e12; exact h1.ok trivial), trivial⟩)) ?_
  intro _
  refine GS.cond (t := false) rfl rfl (fun hf => by cases hf) (fun _ => ?_)
  refine GS.seq ?_
  refine GS.region (env' := fun _ => [(2, .int .u32 a2), (3, .pointer (some ⟨(fr1 0).x, 0, none⟩)), (4, .pointer (some ⟨(fr1 1).x, 0, none⟩)), (6, .pointer (some ⟨(fr1 2).x, 0, none⟩)), (47, .bool false)]) (mem' := fun _ => [(1, .rd a0_3_o 7 []), (2, .rd a0_4_o 5 []), (3, .rd a0_5_o 4 []), (4, .cells ((fr1 0).x) 28 (kc16 a0_3_o a0_3_c a0_4_o a0_4_c a0_5_o a0_5_c)), (5, .cells ((fr1 1).x) 31 (kc25)), (6, .cells ((fr1 2).x) 28 (kc8))]) (RunsTo.mk [(1, { act := .load 5 0 0 [] }), (5, { act := .load 5 0 0 [] }), (14, { act := .load 4 0 0 [] })] [2, 3, 4, 6, 47] [1, 2, 3, 4, 5, 6] (fun _ => [(fr1 1).x = (fr1 1).x, (fr1 1).x = (fr1 1).x, (fr1 0).x = (fr1 0).x]) (fun _ => by kernel_rfl) (fun _ => ⟨rfl, rfl, rfl, trivial⟩)) ?_
  intro _
  refine GS.cond (t := false) rfl rfl (fun hf => by cases hf) (fun _ => ?_)
  refine GS.skip ?_
  refine GS.inBlock ?_
  refine GS.seq ?_
  refine bnd_elim hm (fun y15 e16 hm => ?_)
  refine GS.open_ ?_
  refine GR.run (i := 0) 1 (env' := fun _ => [(2, .int .u32 a2), (3, .pointer (some ⟨(fr1 0).x, 0, none⟩)), (4, .pointer (some ⟨(fr1 1).x, 0, none⟩)), (6, .pointer (some ⟨(fr1 2).x, 0, none⟩)), (67, .agg ((kc16 a0_3_o a0_3_c a0_4_o a0_4_c a0_5_o a0_5_c)).toArray)]) (mem' := fun _ => [(1, .rd a0_3_o 7 []), (2, .rd a0_4_o 5 []), (3, .rd a0_5_o 4 []), (4, .cells ((fr1 0).x) 28 (kc16 a0_3_o a0_3_c a0_4_o a0_4_c a0_5_o a0_5_c)), (5, .cells ((fr1 1).x) 31 (kc25)), (6, .cells ((fr1 2).x) 28 (kc8))]) (Nat.le_of_ble_eq_true (by kernel_rfl)) (RunsTo.mk [(0, { act := .load 4 0 0 [] })] [2, 3, 4, 6, 67] [1, 2, 3, 4, 5, 6] (fun _ => [(fr1 0).x = (fr1 0).x]) (fun _ => by kernel_rfl) (fun _ => ⟨rfl, trivial⟩)) ?_
  intro _
  refine GR.callG (X := Option Addr × Nat × Option Addr × Nat × Option Addr × Nat) (i := 1) (g := 32) (args := #[.agg ((kc16 a0_3_o a0_3_c a0_4_o a0_4_c a0_5_o a0_5_c)).toArray]) (v := fun ⟨x17, x18, x19, x20, x21, x22⟩ => .agg ((kc16 x17 x18 x19 x20 x21 x22)).toArray) (own := []) (ro := [.rd a0_3_o 7 [], .rd a0_4_o 5 [], .rd a0_5_o 4 []]) (es' := fun ⟨x17, x18, x19, x20, x21, x22⟩ => [.osl x17 x18 31 7 [], .osl x19 x20 94 5 [], .osl x21 x22 91 4 []]) (mem' := fun ⟨x17, x18, x19, x20, x21, x22⟩ => [(1, .rd a0_3_o 7 []), (2, .rd a0_4_o 5 []), (3, .rd a0_5_o 4 []), (4, .cells ((fr1 0).x) 28 (kc16 a0_3_o a0_3_c a0_4_o a0_4_c a0_5_o a0_5_c)), (5, .cells ((fr1 1).x) 31 (kc25)), (6, .cells ((fr1 2).x) 28 (kc8)), (8, .osl x17 x18 31 7 []), (9, .osl x19 x20 94 5 []), (10, .osl x21 x22 91 4 [])]) (env' := fun ⟨x17, x18, x19, x20, x21, x22⟩ => [(2, .int .u32 a2), (3, .pointer (some ⟨(fr1 0).x, 0, none⟩)), (4, .pointer (some ⟨(fr1 1).x, 0, none⟩)), (6, .pointer (some ⟨(fr1 2).x, 0, none⟩)), (68, .agg ((kc16 x17 x18 x19 x20 x21 x22)).toArray)]) [] [8, 9, 10] [2, 3, 4, 6, 68] [1, 2, 3, 4, 5, 6, 8, 9, 10] false (by kernel_rfl) (by kernel_rfl) (by kernel_rfl) (by kernel_rfl) (by kernel_rfl) (fun _ => rfl) (fun _ _ => rfl) ⟨(.inl ⟨1, _, rfl, rfl, Cov.refl _, fun h => by cases h⟩), (.inl ⟨2, _, rfl, rfl, Cov.refl _, fun h => by cases h⟩), (.inl ⟨3, _, rfl, rfl, Cov.refl _, fun h => by cases h⟩), trivial⟩ (by rintro ⟨x17, x18, x19, x20, x21, x22⟩; kernel_rfl) (by rintro ⟨x17, x18, x19, x20, x21, x22⟩; kernel_rfl) ((by have h1 := w_pglog_Copy_3 F a0_3_o a0_3_c a0_4_o a0_4_c a0_5_o a0_5_c e16; exact h1)) ?_
  rintro ⟨x17, x18, x19, x20, x21, x22⟩
  refine GR.run (i := 2) 1 (env' := fun _ => [(2, .int .u32 a2), (3, .pointer (some ⟨(fr1 0).x, 0, none⟩)), (4, .pointer (some ⟨(fr1 1).x, 0, none⟩)), (6, .pointer (some ⟨(fr1 2).x, 0, none⟩))]) (mem' := fun _ => [(4, .cells ((fr1 0).x) 28 (kc16 x17 x18 x19 x20 x21 x22)), (5, .cells ((fr1 1).x) 31 (kc25)), (6, .cells ((fr1 2).x) 28 (kc8)), (8, .osl x17 x18 31 7 []), (9, .osl x19 x20 94 5 []), (10, .osl x21 x22 91 4 [])]) (Nat.le_of_ble_eq_true (by kernel_rfl)) (RunsTo.mk [(2, { act := .store 0 0 [], key := some 4 })] [2, 3, 4, 6] [4, 5, 6, 8, 9, 10] (fun _ => [(fr1 0).x = (fr1 0).x, ((.agg ((kc16 x17 x18 x19 x20 x21 x22)).toArray) : Value).cells.toList.all Value.oneCell' = true]) (fun _ => by kernel_rfl) (fun _ => ⟨rfl, rfl, trivial⟩)) ?_
  intro _
  refine GR.done (Nat.le_of_ble_eq_true (by kernel_rfl)) ?_
  refine GS.seq ?_
  refine GS.region (env' := fun fr24 => [(2, .int .u32 a2), (3, .pointer (some ⟨(fr1 0).x, 0, none⟩)), (4, .pointer (some ⟨(fr1 1).x, 0, none⟩)), (6, .pointer (some ⟨(fr1 2).x, 0, none⟩))]) (mem' := fun fr24 => [(4, .cells ((fr1 0).x) 28 (kc29 ((fr24 4).ob) ((fr24 4).cap) x19 x20 x21 x22)), (5, .cells ((fr1 1).x) 31 (kc25)), (6, .cells ((fr1 2).x) 28 (kc8)), (8, .osl ((fr24 4).ob) ((fr24 4).cap) 31 7 (([] : List (List Value)) ++ ([(kc25)] : List (List Value)))), (9, .osl x19 x20 94 5 []), (10, .osl x21 x22 91 4 [])]) (RunsTo.mk [(1, { act := .load 4 0 0 [] }), (2, { act := .load 5 0 0 [] }), (3, { act := .new (.row 1 7), key := some 11 }), (4, { act := .app (some 11), key := some 8, spf := some (fun f => .slice (f.ob) 1 (f.cap)) }), (6, { act := .store 0 0 [], key := some 4 })] [2, 3, 4, 6] [4, 5, 6, 8, 9, 10] (fun fr24 => [(fr1 0).x = (fr1 0).x, (fr1 1).x = (fr1 1).x, (some (Addr.mk (fr24 3).x 0 none)) = (some (Addr.mk (fr24 3).x 0 none)), 1 = ([(kc25)] : List (List Value)).length, x17 = x17, x18 = x18, 0 = ([] : List (List Value)).length, (([] : List (List Value)).length + ([(kc25)] : List (List Value)).length) * (64 + 1) ≤ 70368744177664, ([(kc25)] : List (List Value)).flatten.all Value.oneCell' = true, ((.slice ((fr24 4).ob) (0 + ([(kc25)] : List (List Value)).length) ((fr24 4).cap)) : Value) = .slice ((fr24 4).ob) 1 ((fr24 4).cap), (fr1 0).x = (fr1 0).x, ((.slice ((fr24 4).ob) 1 ((fr24 4).cap)) : Value).cells.toList.all Value.oneCell' = true]) (fun fr24 => by kernel_rfl) (fun fr24 => ⟨rfl, rfl, rfl, rfl, rfl, rfl, rfl, (show (0 + 1) * (64 + 1) ≤ 70368744177664 by decide), rfl, rfl, rfl, rfl, trivial⟩)) ?_
  intro fr24
  refine GS.conv (mem' := [(4, .cells ((fr1 0).x) 28 (kc29 ((fr24 4).ob) ((fr24 4).cap) x19 x20 x21 x22)), (5, .cells ((fr1 1).x) 31 (kc25)), (6, .cells ((fr1 2).x) 28 (kc8)), (8, .osl ((fr24 4).ob) ((fr24 4).cap) 31 7 [(kc25)]), (9, .osl x19 x20 94 5 []), (10, .osl x21 x22 91 4 [])]) rfl (congrArg (fun rr : List (List Value) => ([(4, .cells ((fr1 0).x) 28 (kc29 ((fr24 4).ob) ((fr24 4).cap) x19 x20 x21 x22)), (5, .cells ((fr1 1).x) 31 (kc25)), (6, .cells ((fr1 2).x) 28 (kc8)), (8, .osl ((fr24 4).ob) ((fr24 4).cap) 31 7 rr), (9, .osl x19 x20 94 5 []), (10, .osl x21 x22 91 4 [])] : List (Nat × Ent))) (show ([] : List (List Value)) ++ ([(kc25)] : List (List Value)) = ([(kc25)] : List (List Value)) from rfl)) ?_
  refine GS.seq ?_
  refine GS.region (env' := fun fr25 => [(2, .int .u32 a2), (3, .pointer (some ⟨(fr1 0).x, 0, none⟩)), (4, .pointer (some ⟨(fr1 1).x, 0, none⟩)), (6, .pointer (some ⟨(fr1 2).x, 0, none⟩)), (10, .pointer (some ⟨(fr25 9).x, 0, none⟩))]) (mem' := fun fr25 => [(4, .cells ((fr1 0).x) 28 (kc29 ((fr24 4).ob) ((fr24 4).cap) x19 x20 x21 x22)), (5, .cells ((fr1 1).x) 31 (kc25)), (6, .cells ((fr1 2).x) 28 (kc8)), (8, .osl ((fr24 4).ob) ((fr24 4).cap) 31 7 [(kc25)]), (9, .osl x19 x20 94 5 []), (10, .osl x21 x22 91 4 []), (12, .cells ((fr25 9).x) 94 (kc30))]) (RunsTo.mk [(1, { act := .load 5 0 0 [] }), (3, { act := .load 5 0 0 [] }), (5, { act := .load 5 0 0 [] }), (7, { act := .load 5 0 0 [] }), (9, { act := .new .var, key := some 12 }), (10, { act := .store 0 0 [], key := some 12 })] [2, 3, 4, 6, 10] [4, 5, 6, 8, 9, 10, 12] (fun fr25 => [(fr1 1).x = (fr1 1).x, (fr1 1).x = (fr1 1).x, (fr1 1).x = (fr1 1).x, (fr1 1).x = (fr1 1).x, (fr25 9).x = (fr25 9).x, ((.agg ((kc30)).toArray) : Value).cells.toList.all Value.oneCell' = true]) (fun fr25 => by kernel_rfl) (fun fr25 => ⟨rfl, rfl, rfl, rfl, rfl, rfl, trivial⟩)) ?_
  intro fr25
  refine GS.seq ?_
  refine GS.seq ?_
  refine bnd_elim hm (fun y27 e28 hm => ?_)
  refine GS.region (env' := fun _ => [(2, .int .u32 a2), (3, .pointer (some ⟨(fr1 0).x, 0, none⟩)), (4, .pointer (some ⟨(fr1 1).x, 0, none⟩)), (6, .pointer (some ⟨(fr1 2).x, 0, none⟩)), (10, .pointer (some ⟨(fr25 9).x, 0, none⟩)), (11, .int .i64 0), (12, .bool false)]) (mem' := fun _ => [(4, .cells ((fr1 0).x) 28 (kc29 ((fr24 4).ob) ((fr24 4).cap) x19 x20 x21 x22)), (5, .cells ((fr1 1).x) 31 (kc25)), (6, .cells ((fr1 2).x) 28 (kc8)), (8, .osl ((fr24 4).ob) ((fr24 4).cap) 31 7 [(kc25)]), (9, .osl x19 x20 94 5 []), (10, .osl x21 x22 91 4 []), (12, .cells ((fr25 9).x) 94 (kc30))]) (RunsTo.mk [(1, { act := .load 4 0 0 [] }), (3, { act := .load 5 0 0 [] }), (4, { act := .call [9] (.tuple #[.int .i64 0, .bool false]) })] [2, 3, 4, 6, 10, 11, 12] [4, 5, 6, 8, 9, 10, 12] (fun _ => [(fr1 0).x = (fr1 0).x, (fr1 1).x = (fr1 1).x, CallOK Tryz.prog 52 #[.slice x19 0 x20, .func (.func 53) #[] #[], .int .i64 5] (.tuple #[.int .i64 0, .bool false]) [some (.osl x19 x20 94 5 [])]]) (fun _ => by kernel_rfl) (fun _ => ⟨rfl, rfl, (by have h1 := w_pglog_look_api_Last_int_ F x19 x20 e28; exact h1.ok ⟨(.inl ⟨.osl x19 x20 94 5 [], .head _, Cov.osl_rd⟩), trivial⟩), trivial⟩)) ?_
  intro _
  refine GS.seq ?_
  refine GS.region (env' := fun _ => [(2, .int .u32 a2), (3, .pointer (some ⟨(fr1 0).x, 0, none⟩)), (4, .pointer (some ⟨(fr1 1).x, 0, none⟩)), (6, .pointer (some ⟨(fr1 2).x, 0, none⟩)), (10, .pointer (some ⟨(fr25 9).x, 0, none⟩)), (11, .int .i64 0), (92, .bool false)]) (mem' := fun _ => [(4, .cells ((fr1 0).x) 28 (kc29 ((fr24 4).ob) ((fr24 4).cap) x19 x20 x21 x22)), (5, .cells ((fr1 1).x) 31 (kc25)), (6, .cells ((fr1 2).x) 28 (kc8)), (8, .osl ((fr24 4).ob) ((fr24 4).cap) 31 7 [(kc25)]), (9, .osl x19 x20 94 5 []), (10, .osl x21 x22 91 4 []), (12, .cells ((fr25 9).x) 94 (kc30))]) (RunsTo.mk [] [2, 3, 4, 6, 10, 11, 92] [4, 5, 6, 8, 9, 10, 12] (fun _ => []) (fun _ => by kernel_rfl) (fun _ => trivial)) ?_
  intro _
  refine GS.cond (t := false) rfl rfl (fun hf => by cases hf) (fun _ => ?_)
  refine GS.know (p := 0 ≤ x20) (fun w hw => (hw.ok 9 _ rfl).1.1) (fun k30 => ?_)
  refine bnd_elim hm (fun y32 e33 hm => ?_)
  refine GS.open_ ?_
  refine GR.run (i := 0) 5 (env' := fun fr31 => [(2, .int .u32 a2), (3, .pointer (some ⟨(fr1 0).x, 0, none⟩)), (4, .pointer (some ⟨(fr1 1).x, 0, none⟩)), (6, .pointer (some ⟨(fr1 2).x, 0, none⟩)), (99, .slice x19 0 x20), (100, .int .i64 0), (102, .slice (some (Addr.mk (fr31 4).x 0 none)) 1 1)]) (mem' := fun fr31 => [(4, .cells ((fr1 0).x) 28 (kc29 ((fr24 4).ob) ((fr24 4).cap) x19 x20 x21 x22)), (5, .cells ((fr1 1).x) 31 (kc25)), (6, .cells ((fr1 2).x) 28 (kc8)), (8, .osl ((fr24 4).ob) ((fr24 4).cap) 31 7 [(kc25)]), (9, .osl x19 x20 94 5 []), (10, .osl x21 x22 91 4 []), (13, .osl (some (Addr.mk (fr31 4).x 0 none)) 1 94 5 [(kc30)])]) (Nat.le_of_ble_eq_true (by kernel_rfl)) (RunsTo.mk [(1, { act := .load 4 0 0 [] }), (3, { act := .load 12 0 0 [] }), (4, { act := .new (.row 1 5), key := some 13 })] [2, 3, 4, 6, 99, 100, 102] [4, 5, 6, 8, 9, 10, 13] (fun fr31 => [(fr1 0).x = (fr1 0).x, (fr25 9).x = (fr25 9).x]) (fun fr31 => by kernel_rfl) (fun fr31 => ⟨rfl, rfl, trivial⟩)) ?_
  intro fr31
  refine GR.callG (X := Option Addr × Nat) (i := 5) (g := 54) (args := #[.slice x19 0 x20, .int .i64 0, .slice (some (Addr.mk (fr31 4).x 0 none)) 1 1]) (v := fun ⟨x34, x35⟩ => .slice x34 1 x35) (own := [.osl x19 x20 94 5 []]) (ro := [.rd (some (Addr.mk (fr31 4).x 0 none)) 5 [(kc30)]]) (es' := fun ⟨x34, x35⟩ => [.osl x34 x35 94 5 [(kc30)]]) (mem' := fun ⟨x34, x35⟩ => [(4, .cells ((fr1 0).x) 28 (kc29 ((fr24 4).ob) ((fr24 4).cap) x19 x20 x21 x22)), (5, .cells ((fr1 1).x) 31 (kc25)), (6, .cells ((fr1 2).x) 28 (kc8)), (8, .osl ((fr24 4).ob) ((fr24 4).cap) 31 7 [(kc25)]), (9, .osl x34 x35 94 5 [(kc30)]), (10, .osl x21 x22 91 4 []), (13, .osl (some (Addr.mk (fr31 4).x 0 none)) 1 94 5 [(kc30)])]) (env' := fun ⟨x34, x35⟩ => [(2, .int .u32 a2), (3, .pointer (some ⟨(fr1 0).x, 0, none⟩)), (4, .pointer (some ⟨(fr1 1).x, 0, none⟩)), (6, .pointer (some ⟨(fr1 2).x, 0, none⟩)), (103, .slice x34 1 x35)]) [9] [9] [2, 3, 4, 6, 103] [4, 5, 6, 8, 9, 10, 13] false (by kernel_rfl) (by kernel_rfl) (by kernel_rfl) (by kernel_rfl) (by kernel_rfl) (fun _ => rfl) (fun _ _ => rfl) ⟨(.inl ⟨13, _, rfl, rfl, Cov.osl_rd, fun h => by cases h⟩), trivial⟩ (by rintro ⟨x34, x35⟩; kernel_rfl) (by rintro ⟨x34, x35⟩; kernel_rfl) ((by have h1 := w_slices_Insert___api_Last_api_Last_ F x19 x20 (some (Addr.mk (fr31 4).x 0 none)) 1 k30 e33; exact h1)) ?_
  rintro ⟨x34, x35⟩
  refine GR.run (i := 6) 2 (env' := fun _ => [(2, .int .u32 a2), (3, .pointer (some ⟨(fr1 0).x, 0, none⟩)), (4, .pointer (some ⟨(fr1 1).x, 0, none⟩)), (6, .pointer (some ⟨(fr1 2).x, 0, none⟩))]) (mem' := fun _ => [(4, .cells ((fr1 0).x) 28 (kc31 ((fr24 4).ob) ((fr24 4).cap) x34 x35 x21 x22)), (5, .cells ((fr1 1).x) 31 (kc25)), (6, .cells ((fr1 2).x) 28 (kc8)), (8, .osl ((fr24 4).ob) ((fr24 4).cap) 31 7 [(kc25)]), (9, .osl x34 x35 94 5 [(kc30)]), (10, .osl x21 x22 91 4 [])]) (Nat.le_of_ble_eq_true (by kernel_rfl)) (RunsTo.mk [(7, { act := .store 0 0 [], key := some 4 })] [2, 3, 4, 6] [4, 5, 6, 8, 9, 10] (fun _ => [(fr1 0).x = (fr1 0).x, ((.slice x34 1 x35) : Value).cells.toList.all Value.oneCell' = true]) (fun _ => by kernel_rfl) (fun _ => ⟨rfl, rfl, trivial⟩)) ?_
  intro _
  refine GR.done (Nat.le_of_ble_eq_true (by kernel_rfl)) ?_
  refine GS.seq ?_
  refine GS.seq ?_
  refine GS.region (env' := fun _ => [(2, .int .u32 a2), (3, .pointer (some ⟨(fr1 0).x, 0, none⟩)), (4, .pointer (some ⟨(fr1 1).x, 0, none⟩)), (6, .pointer (some ⟨(fr1 2).x, 0, none⟩)), (107, .bool false)]) (mem' := fun _ => [(4, .cells ((fr1 0).x) 28 (kc31 ((fr24 4).ob) ((fr24 4).cap) x34 x35 x21 x22)), (5, .cells ((fr1 1).x) 31 (kc25)), (6, .cells ((fr1 2).x) 28 (kc8)), (8, .osl ((fr24 4).ob) ((fr24 4).cap) 31 7 [(kc25)]), (9, .osl x34 x35 94 5 [(kc30)]), (10, .osl x21 x22 91 4 [])]) (RunsTo.mk [(1, { act := .load 5 0 0 [] })] [2, 3, 4, 6, 107] [4, 5, 6, 8, 9, 10] (fun _ => [(fr1 1).x = (fr1 1).x]) (fun _ => by kernel_rfl) (fun _ => ⟨rfl, trivial⟩)) ?_
  intro _
  refine GS.cond (t := false) rfl rfl (fun hf => by cases hf) (fun _ => ?_)
  refine GS.skip ?_
  refine GS.seq ?_
  refine bnd_elim hm (fun y39 e40 hm => ?_)
  refine GS.region (env' := fun _ => [(2, .int .u32 a2), (3, .pointer (some ⟨(fr1 0).x, 0, none⟩)), (4, .pointer (some ⟨(fr1 1).x, 0, none⟩)), (6, .pointer (some ⟨(fr1 2).x, 0, none⟩)), (13, .int .i64 0), (14, .bool false)]) (mem' := fun _ => [(4, .cells ((fr1 0).x) 28 (kc31 ((fr24 4).ob) ((fr24 4).cap) x34 x35 x21 x22)), (5, .cells ((fr1 1).x) 31 (kc25)), (6, .cells ((fr1 2).x) 28 (kc8)), (8, .osl ((fr24 4).ob) ((fr24 4).cap) 31 7 [(kc25)]), (9, .osl x34 x35 94 5 [(kc30)]), (10, .osl x21 x22 91 4 [])]) (RunsTo.mk [(1, { act := .load 4 0 0 [] }), (3, { act := .load 5 0 0 [] }), (4, { act := .call [10] (.tuple #[.int .i64 0, .bool false]) })] [2, 3, 4, 6, 13, 14] [4, 5, 6, 8, 9, 10] (fun _ => [(fr1 0).x = (fr1 0).x, (fr1 1).x = (fr1 1).x, CallOK Tryz.prog 55 #[.slice x21 0 x22, .func (.func 56) #[] #[], .string (ByteArray.mk #[97])] (.tuple #[.int .i64 0, .bool false]) [some (.osl x21 x22 91 4 [])]]) (fun _ => by kernel_rfl) (fun _ => ⟨rfl, rfl, (by have h1 := w_pglog_look_api_Item_string_ F x21 x22 e40; exact h1.ok ⟨(.inl ⟨.osl x21 x22 91 4 [], .head _, Cov.osl_rd⟩), trivial⟩), trivial⟩)) ?_
  intro _
  refine GS.seq ?_
  refine GS.region (env' := fun fr41 => [(3, .pointer (some ⟨(fr1 0).x, 0, none⟩)), (4, .pointer (some ⟨(fr1 1).x, 0, none⟩)), (6, .pointer (some ⟨(fr1 2).x, 0, none⟩)), (13, .int .i64 0), (14, .bool false), (15, .pointer (some ⟨(fr41 6).x, 0, none⟩))]) (mem' := fun fr41 => [(4, .cells ((fr1 0).x) 28 (kc31 ((fr24 4).ob) ((fr24 4).cap) x34 x35 x21 x22)), (5, .cells ((fr1 1).x) 31 (kc25)), (6, .cells ((fr1 2).x) 28 (kc8)), (8, .osl ((fr24 4).ob) ((fr24 4).cap) 31 7 [(kc25)]), (9, .osl x34 x35 94 5 [(kc30)]), (10, .osl x21 x22 91 4 []), (14, .cells ((fr41 6).x) 91 (kc32 a2))]) (RunsTo.mk [(1, { act := .load 5 0 0 [] }), (3, { act := .load 5 0 0 [] }), (6, { act := .new .var, key := some 14 }), (7, { act := .store 0 0 [], key := some 14 })] [3, 4, 6, 13, 14, 15] [4, 5, 6, 8, 9, 10, 14] (fun fr41 => [(fr1 1).x = (fr1 1).x, (fr1 1).x = (fr1 1).x, (fr41 6).x = (fr41 6).x, ((.agg ((kc32 a2)).toArray) : Value).cells.toList.all Value.oneCell' = true]) (fun fr41 => by kernel_rfl) (fun fr41 => ⟨rfl, rfl, rfl, rfl, trivial⟩)) ?_
  intro fr41
  refine GS.seq ?_
  refine GS.block ?_
  refine GS.seq ?_
  refine GS.region (env' := fun _ => [(3, .pointer (some ⟨(fr1 0).x, 0, none⟩)), (4, .pointer (some ⟨(fr1 1).x, 0, none⟩)), (6, .pointer (some ⟨(fr1 2).x, 0, none⟩)), (13, .int .i64 0), (14, .bool false), (15, .pointer (some ⟨(fr41 6).x, 0, none⟩)), (130, .bool false)]) (mem' := fun _ => [(4, .cells ((fr1 0).x) 28 (kc31 ((fr24 4).ob) ((fr24 4).cap) x34 x35 x21 x22)), (5, .cells ((fr1 1).x) 31 (kc25)), (6, .cells ((fr1 2).x) 28 (kc8)), (8, .osl ((fr24 4).ob) ((fr24 4).cap) 31 7 [(kc25)]), (9, .osl x34 x35 94 5 [(kc30)]), (10, .osl x21 x22 91 4 []), (14, .cells ((fr41 6).x) 91 (kc32 a2))]) (RunsTo.mk [(1, { act := .load 5 0 0 [] })] [3, 4, 6, 13, 14, 15, 130] [4, 5, 6, 8, 9, 10, 14] (fun _ => [(fr1 1).x = (fr1 1).x]) (fun _ => by kernel_rfl) (fun _ => ⟨rfl, trivial⟩)) ?_
  intro _
  refine GS.cond (t := false) rfl rfl (fun hf => by cases hf) (fun _ => ?_)
  refine GS.seq ?_
  refine GS.region (env' := fun _ => [(3, .pointer (some ⟨(fr1 0).x, 0, none⟩)), (6, .pointer (some ⟨(fr1 2).x, 0, none⟩)), (13, .int .i64 0), (14, .bool false), (15, .pointer (some ⟨(fr41 6).x, 0, none⟩)), (143, .bool false)]) (mem' := fun _ => [(4, .cells ((fr1 0).x) 28 (kc31 ((fr24 4).ob) ((fr24 4).cap) x34 x35 x21 x22)), (6, .cells ((fr1 2).x) 28 (kc8)), (8, .osl ((fr24 4).ob) ((fr24 4).cap) 31 7 [(kc25)]), (9, .osl x34 x35 94 5 [(kc30)]), (10, .osl x21 x22 91 4 []), (14, .cells ((fr41 6).x) 91 (kc32 a2))]) (RunsTo.mk [(1, { act := .load 5 0 0 [] })] [3, 6, 13, 14, 15, 143] [4, 6, 8, 9, 10, 14] (fun _ => [(fr1 1).x = (fr1 1).x]) (fun _ => by kernel_rfl) (fun _ => ⟨rfl, trivial⟩)) ?_
  intro _
  refine GS.cond (t := false) rfl rfl (fun hf => by cases hf) (fun _ => ?_)
  refine GS.seq ?_
  refine GS.region (env' := fun _ => [(3, .pointer (some ⟨(fr1 0).x, 0, none⟩)), (6, .pointer (some ⟨(fr1 2).x, 0, none⟩)), (13, .int .i64 0), (15, .pointer (some ⟨(fr41 6).x, 0, none⟩)), (146, .bool false)]) (mem' := fun _ => [(4, .cells ((fr1 0).x) 28 (kc31 ((fr24 4).ob) ((fr24 4).cap) x34 x35 x21 x22)), (6, .cells ((fr1 2).x) 28 (kc8)), (8, .osl ((fr24 4).ob) ((fr24 4).cap) 31 7 [(kc25)]), (9, .osl x34 x35 94 5 [(kc30)]), (10, .osl x21 x22 91 4 []), (14, .cells ((fr41 6).x) 91 (kc32 a2))]) (RunsTo.mk [] [3, 6, 13, 15, 146] [4, 6, 8, 9, 10, 14] (fun _ => []) (fun _ => by kernel_rfl) (fun _ => trivial)) ?_
  intro _
  refine GS.cond (t := false) rfl rfl (fun hf => by cases hf) (fun _ => ?_)
  refine GS.know (p := 0 ≤ x22) (fun w hw => (hw.ok 10 _ rfl).1.1) (fun k45 => ?_)
  refine bnd_elim hm (fun y47 e48 hm => ?_)
  refine GS.open_ ?_
  refine GR.run (i := 0) 5 (env' := fun fr46 => [(3, .pointer (some ⟨(fr1 0).x, 0, none⟩)), (6, .pointer (some ⟨(fr1 2).x, 0, none⟩)), (124, .slice x21 0 x22), (125, .int .i64 0), (127, .slice (some (Addr.mk (fr46 4).x 0 none)) 1 1)]) (mem' := fun fr46 => [(4, .cells ((fr1 0).x) 28 (kc31 ((fr24 4).ob) ((fr24 4).cap) x34 x35 x21 x22)), (6, .cells ((fr1 2).x) 28 (kc8)), (8, .osl ((fr24 4).ob) ((fr24 4).cap) 31 7 [(kc25)]), (9, .osl x34 x35 94 5 [(kc30)]), (10, .osl x21 x22 91 4 []), (15, .osl (some (Addr.mk (fr46 4).x 0 none)) 1 91 4 [(kc32 a2)])]) (Nat.le_of_ble_eq_true (by kernel_rfl)) (RunsTo.mk [(1, { act := .load 4 0 0 [] }), (3, { act := .load 14 0 0 [] }), (4, { act := .new (.row 1 4), key := some 15 })] [3, 6, 124, 125, 127] [4, 6, 8, 9, 10, 15] (fun fr46 => [(fr1 0).x = (fr1 0).x, (fr41 6).x = (fr41 6).x]) (fun fr46 => by kernel_rfl) (fun fr46 => ⟨rfl, rfl, trivial⟩)) ?_
  intro fr46
  refine GR.callG (X := Option Addr × Nat) (i := 5) (g := 58) (args := #[.slice x21 0 x22, .int .i64 0, .slice (some (Addr.mk (fr46 4).x 0 none)) 1 1]) (v := fun ⟨x49, x50⟩ => .slice x49 1 x50) (own := [.osl x21 x22 91 4 []]) (ro := [.rd (some (Addr.mk (fr46 4).x 0 none)) 4 [(kc32 a2)]]) (es' := fun ⟨x49, x50⟩ => [.osl x49 x50 91 4 [(kc32 y47)]]) (mem' := fun ⟨x49, x50⟩ => [(4, .cells ((fr1 0).x) 28 (kc31 ((fr24 4).ob) ((fr24 4).cap) x34 x35 x21 x22)), (6, .cells ((fr1 2).x) 28 (kc8)), (8, .osl ((fr24 4).ob) ((fr24 4).cap) 31 7 [(kc25)]), (9, .osl x34 x35 94 5 [(kc30)]), (10, .osl x49 x50 91 4 [(kc32 y47)]), (15, .osl (some (Addr.mk (fr46 4).x 0 none)) 1 91 4 [(kc32 a2)])]) (env' := fun ⟨x49, x50⟩ => [(3, .pointer (some ⟨(fr1 0).x, 0, none⟩)), (6, .pointer (some ⟨(fr1 2).x, 0, none⟩)), (128, .slice x49 1 x50)]) [10] [10] [3, 6, 128] [4, 6, 8, 9, 10, 15] false (by kernel_rfl) (by kernel_rfl) (by kernel_rfl) (by kernel_rfl) (by kernel_rfl) (fun _ => rfl) (fun _ _ => rfl) ⟨(.inl ⟨15, _, rfl, rfl, Cov.osl_rd, fun h => by cases h⟩), trivial⟩ (by rintro ⟨x49, x50⟩; kernel_rfl) (by rintro ⟨x49, x50⟩; kernel_rfl) ((by have h1 := w_slices_Insert___api_Item_api_Item_ F x21 x22 (some (Addr.mk (fr46 4).x 0 none)) 1 a2 k45 e48; exact h1)) ?_
  rintro ⟨x49, x50⟩
  refine GR.run (i := 6) 2 (env' := fun _ => [(3, .pointer (some ⟨(fr1 0).x, 0, none⟩)), (6, .pointer (some ⟨(fr1 2).x, 0, none⟩))]) (mem' := fun _ => [(4, .cells ((fr1 0).x) 28 (kc33 ((fr24 4).ob) ((fr24 4).cap) x34 x35 x49 x50)), (6, .cells ((fr1 2).x) 28 (kc8)), (8, .osl ((fr24 4).ob) ((fr24 4).cap) 31 7 [(kc25)]), (9, .osl x34 x35 94 5 [(kc30)]), (10, .osl x49 x50 91 4 [(kc32 y47)])]) (Nat.le_of_ble_eq_true (by kernel_rfl)) (RunsTo.mk [(7, { act := .store 0 0 [], key := some 4 })] [3, 6] [4, 6, 8, 9, 10] (fun _ => [(fr1 0).x = (fr1 0).x, ((.slice x49 1 x50) : Value).cells.toList.all Value.oneCell' = true]) (fun _ => by kernel_rfl) (fun _ => ⟨rfl, rfl, trivial⟩)) ?_
  intro _
  refine GR.done (Nat.le_of_ble_eq_true (by kernel_rfl)) ?_
  refine GS.inBlock ?_
  refine GS.seq ?_
  refine GS.region (env' := fun _ => [(6, .pointer (some ⟨(fr1 2).x, 0, none⟩)), (7, .int .i64 0)]) (mem' := fun _ => [(6, .cells ((fr1 2).x) 28 (kc33 ((fr24 4).ob) ((fr24 4).cap) x34 x35 x49 x50)), (8, .osl ((fr24 4).ob) ((fr24 4).cap) 31 7 [(kc25)]), (9, .osl x34 x35 94 5 [(kc30)]), (10, .osl x49 x50 91 4 [(kc32 y47)])]) (RunsTo.mk [(0, { act := .load 4 0 0 [] }), (1, { act := .store 0 0 [], key := some 6 })] [6, 7] [6, 8, 9, 10] (fun _ => [(fr1 0).x = (fr1 0).x, (fr1 2).x = (fr1 2).x, ((.agg ((kc33 ((fr24 4).ob) ((fr24 4).cap) x34 x35 x49 x50)).toArray) : Value).cells.toList.all Value.oneCell' = true]) (fun _ => by kernel_rfl) (fun _ => ⟨rfl, rfl, rfl, trivial⟩)) ?_
  intro _
  have hy := Option.some.inj hm
  subst hy
  refine GS.ret (fn := Tryz.f33) [6, 0] [.agg ((kc33 ((fr24 4).ob) ((fr24 4).cap) x34 x35 x49 x50)).toArray, .int .i64 0] [(fr1 2).x = (fr1 2).x] rfl Tryz.func33 (by kernel_rfl) ⟨rfl, trivial⟩ (fun w' hs => ?_)
  exact ⟨⟨(fr24 4).ob, (fr24 4).cap, x34, x35, x49, x50⟩, rfl, hs.turnedG (ks := [8, 9, 10]) rfl rfl⟩

theorem w_pglog_Copy_4 (F : Nat) (a0_3_o : Option Addr) (a0_3_c : Nat) (a0_4_o : Option Addr) (a0_4_c : Nat) (a0_5_o : Option Addr) (a0_5_c : Nat) (a0_5_0_3 : Int) {y : Int} (hm : m_pglog_Copy_4 F a0_5_0_3 = some y) : CallG Tryz.prog 32 #[.agg ((kc33 a0_3_o a0_3_c a0_4_o a0_4_c a0_5_o a0_5_c)).toArray] (X := Option Addr × Nat × Option Addr × Nat × Option Addr × Nat) (fun ⟨x0, x1, x2, x3, x4, x5⟩ => .agg ((kc33 x0 x1 x2 x3 x4 x5)).toArray) [] [.rd a0_3_o 7 [(kc25)], .rd a0_4_o 5 [(kc30)], .rd a0_5_o 4 [(kc32 a0_5_0_3)]] (fun ⟨x0, x1, x2, x3, x4, x5⟩ => [.osl x0 x1 31 7 [(kc25)], .osl x2 x3 94 5 [(kc30)], .osl x4 x5 91 4 [(kc32 y)]]) := by
  intro w hg
  rw [m_pglog_Copy_4] at hm
  refine GS.start (S := mayT [] [.rd a0_3_o 7 [(kc25)], .rd a0_4_o 5 [(kc30)], .rd a0_5_o 4 [(kc32 a0_5_0_3)]]) (mem := [(1, .rd a0_3_o 7 [(kc25)]), (2, .rd a0_4_o 5 [(kc30)]), (3, .rd a0_5_o 4 [(kc32 a0_5_0_3)])]) Tryz.func32 rfl Tryz.ntmps32 (Nat.le_of_ble_eq_true rfl) (hg.start rfl) ?_
  refine GS.conv (env' := [(0, .agg ((kc33 a0_3_o a0_3_c a0_4_o a0_4_c a0_5_o a0_5_c)).toArray)]) rfl rfl ?_
  refine GS.seq ?_
  refine GS.region (env' := fun fr1 => [(1, .pointer (some ⟨(fr1 0).x, 0, none⟩)), (2, .pointer (some ⟨(fr1 1).x, 0, none⟩))]) (mem' := fun fr1 => [(1, .rd a0_3_o 7 [(kc25)]), (2, .rd a0_4_o 5 [(kc30)]), (3, .rd a0_5_o 4 [(kc32 a0_5_0_3)]), (4, .cells ((fr1 0).x) 28 (kc33 a0_3_o a0_3_c a0_4_o a0_4_c a0_5_o a0_5_c)), (5, .cells ((fr1 1).x) 28 (kc8))]) (RunsTo.mk [(0, { act := .new .var, key := some 4 }), (1, { act := .new .var, key := some 5 })] [1, 2] [1, 2, 3, 4, 5] (fun fr1 => []) (fun fr1 => by kernel_rfl) (fun fr1 => trivial)) ?_
  intro fr1
  refine GS.seq ?_
  refine GS.region (env' := fun fr2 => [(1, .pointer (some ⟨(fr1 0).x, 0, none⟩)), (2, .pointer (some ⟨(fr1 1).x, 0, none⟩))]) (mem' := fun fr2 => [(2, .rd a0_4_o 5 [(kc30)]), (3, .rd a0_5_o 4 [(kc32 a0_5_0_3)]), (4, .cells ((fr1 0).x) 28 (kc33 ((fr2 2).ob) ((fr2 2).cap) a0_4_o a0_4_c a0_5_o a0_5_c)), (5, .cells ((fr1 1).x) 28 (kc8)), (6, .osl ((fr2 2).ob) ((fr2 2).cap) 31 7 ([(kc25)] : List (List Value)))]) (RunsTo.mk [(1, { act := .load 4 0 0 [] }), (2, { act := .app (some 1), key := some 6, spf := some (fun f => .slice (f.ob) 1 (f.cap)) }), (4, { act := .store 0 0 [], key := some 4 })] [1, 2] [2, 3, 4, 5, 6] (fun fr2 => [(fr1 0).x = (fr1 0).x, a0_3_o = a0_3_o, 1 = ([(kc25)] : List (List Value)).length, 0 = 0, 0 = 0, ([(kc25)] : List (List Value)).length * (64 + 1) ≤ 70368744177664, ((.slice ((fr2 2).ob) (0 + ([(kc25)] : List (List Value)).length) ((fr2 2).cap)) : Value) = .slice ((fr2 2).ob) 1 ((fr2 2).cap), (fr1 0).x = (fr1 0).x, ((.slice ((fr2 2).ob) 1 ((fr2 2).cap)) : Value).cells.toList.all Value.oneCell' = true]) (fun fr2 => by kernel_rfl) (fun fr2 => ⟨rfl, rfl, rfl, rfl, rfl, (show 1 * (64 + 1) ≤ 70368744177664 by decide), rfl, rfl, rfl, trivial⟩)) ?_
  intro fr2
  refine GS.conv (mem' := [(2, .rd a0_4_o 5 [(kc30)]), (3, .rd a0_5_o 4 [(kc32 a0_5_0_3)]), (4, .cells ((fr1 0).x) 28 (kc33 ((fr2 2).ob) ((fr2 2).cap) a0_4_o a0_4_c a0_5_o a0_5_c)), (5, .cells ((fr1 1).x) 28 (kc8)), (6, .osl ((fr2 2).ob) ((fr2 2).cap) 31 7 [(kc25)])]) rfl (congrArg (fun rr : List (List Value) => ([(2, .rd a0_4_o 5 [(kc30)]), (3, .rd a0_5_o 4 [(kc32 a0_5_0_3)]), (4, .cells ((fr1 0).x) 28 (kc33 ((fr2 2).ob) ((fr2 2).cap) a0_4_o a0_4_c a0_5_o a0_5_c)), (5, .cells ((fr1 1).x) 28 (kc8)), (6, .osl ((fr2 2).ob) ((fr2 2).cap) 31 7 rr)] : List (Nat × Ent))) (show ([(kc25)] : List (List Value)) = ([(kc25)] : List (List Value)) from rfl)) ?_
  refine GS.seq ?_
  refine GS.region (env' := fun fr3 => [(1, .pointer (some ⟨(fr1 0).x, 0, none⟩)), (2, .pointer (some ⟨(fr1 1).x, 0, none⟩))]) (mem' := fun fr3 => [(3, .rd a0_5_o 4 [(kc32 a0_5_0_3)]), (4, .cells ((fr1 0).x) 28 (kc33 ((fr2 2).ob) ((fr2 2).cap) ((fr3 2).ob) ((fr3 2).cap) a0_5_o a0_5_c)), (5, .cells ((fr1 1).x) 28 (kc8)), (6, .osl ((fr2 2).ob) ((fr2 2).cap) 31 7 [(kc25)]), (7, .osl ((fr3 2).ob) ((fr3 2).cap) 94 5 ([(kc30)] : List (List Value)))]) (RunsTo.mk [(1, { act := .load 4 0 0 [] }), (2, { act := .app (some 2), key := some 7, spf := some (fun f => .slice (f.ob) 1 (f.cap)) }), (4, { act := .store 0 0 [], key := some 4 })] [1, 2] [3, 4, 5, 6, 7] (fun fr3 => [(fr1 0).x = (fr1 0).x, a0_4_o = a0_4_o, 1 = ([(kc30)] : List (List Value)).length, 0 = 0, 0 = 0, ([(kc30)] : List (List Value)).length * (40 + 1) ≤ 70368744177664, ((.slice ((fr3 2).ob) (0 + ([(kc30)] : List (List Value)).length) ((fr3 2).cap)) : Value) = .slice ((fr3 2).ob) 1 ((fr3 2).cap), (fr1 0).x = (fr1 0).x, ((.slice ((fr3 2).ob) 1 ((fr3 2).cap)) : Value).cells.toList.all Value.oneCell' = true]) (fun fr3 => by kernel_rfl) (fun fr3 => ⟨rfl, rfl, rfl, rfl, rfl, (show 1 * (40 + 1) ≤ 70368744177664 by decide), rfl, rfl, rfl, trivial⟩)) ?_
  intro fr3
  refine GS.conv (mem' := [(3, .rd a0_5_o 4 [(kc32 a0_5_0_3)]), (4, .cells ((fr1 0).x) 28 (kc33 ((fr2 2).ob) ((fr2 2).cap) ((fr3 2).ob) ((fr3 2).cap) a0_5_o a0_5_c)), (5, .cells ((fr1 1).x) 28 (kc8)), (6, .osl ((fr2 2).ob) ((fr2 2).cap) 31 7 [(kc25)]), (7, .osl ((fr3 2).ob) ((fr3 2).cap) 94 5 [(kc30)])]) rfl (congrArg (fun rr : List (List Value) => ([(3, .rd a0_5_o 4 [(kc32 a0_5_0_3)]), (4, .cells ((fr1 0).x) 28 (kc33 ((fr2 2).ob) ((fr2 2).cap) ((fr3 2).ob) ((fr3 2).cap) a0_5_o a0_5_c)), (5, .cells ((fr1 1).x) 28 (kc8)), (6, .osl ((fr2 2).ob) ((fr2 2).cap) 31 7 [(kc25)]), (7, .osl ((fr3 2).ob) ((fr3 2).cap) 94 5 rr)] : List (Nat × Ent))) (show ([(kc30)] : List (List Value)) = ([(kc30)] : List (List Value)) from rfl)) ?_
  refine GS.seq ?_
  refine GS.region (env' := fun fr4 => [(1, .pointer (some ⟨(fr1 0).x, 0, none⟩)), (2, .pointer (some ⟨(fr1 1).x, 0, none⟩))]) (mem' := fun fr4 => [(4, .cells ((fr1 0).x) 28 (kc33 ((fr2 2).ob) ((fr2 2).cap) ((fr3 2).ob) ((fr3 2).cap) ((fr4 2).ob) ((fr4 2).cap))), (5, .cells ((fr1 1).x) 28 (kc8)), (6, .osl ((fr2 2).ob) ((fr2 2).cap) 31 7 [(kc25)]), (7, .osl ((fr3 2).ob) ((fr3 2).cap) 94 5 [(kc30)]), (8, .osl ((fr4 2).ob) ((fr4 2).cap) 91 4 ([(kc32 a0_5_0_3)] : List (List Value)))]) (RunsTo.mk [(1, { act := .load 4 0 0 [] }), (2, { act := .app (some 3), key := some 8, spf := some (fun f => .slice (f.ob) 1 (f.cap)) }), (4, { act := .store 0 0 [], key := some 4 })] [1, 2] [4, 5, 6, 7, 8] (fun fr4 => [(fr1 0).x = (fr1 0).x, a0_5_o = a0_5_o, 1 = ([(kc32 a0_5_0_3)] : List (List Value)).length, 0 = 0, 0 = 0, ([(kc32 a0_5_0_3)] : List (List Value)).length * (40 + 1) ≤ 70368744177664, ((.slice ((fr4 2).ob) (0 + ([(kc32 a0_5_0_3)] : List (List Value)).length) ((fr4 2).cap)) : Value) = .slice ((fr4 2).ob) 1 ((fr4 2).cap), (fr1 0).x = (fr1 0).x, ((.slice ((fr4 2).ob) 1 ((fr4 2).cap)) : Value).cells.toList.all Value.oneCell' = true]) (fun fr4 => by kernel_rfl) (fun fr4 => ⟨rfl, rfl, rfl, rfl, rfl, (show 1 * (40 + 1) ≤ 70368744177664 by decide), rfl, rfl, rfl, trivial⟩)) ?_
  intro fr4
  refine GS.conv (mem' := [(4, .cells ((fr1 0).x) 28 (kc33 ((fr2 2).ob) ((fr2 2).cap) ((fr3 2).ob) ((fr3 2).cap) ((fr4 2).ob) ((fr4 2).cap))), (5, .cells ((fr1 1).x) 28 (kc8)), (6, .osl ((fr2 2).ob) ((fr2 2).cap) 31 7 [(kc25)]), (7, .osl ((fr3 2).ob) ((fr3 2).cap) 94 5 [(kc30)]), (8, .osl ((fr4 2).ob) ((fr4 2).cap) 91 4 [(kc32 a0_5_0_3)])]) rfl (congrArg (fun rr : List (List Value) => ([(4, .cells ((fr1 0).x) 28 (kc33 ((fr2 2).ob) ((fr2 2).cap) ((fr3 2).ob) ((fr3 2).cap) ((fr4 2).ob) ((fr4 2).cap))), (5, .cells ((fr1 1).x) 28 (kc8)), (6, .osl ((fr2 2).ob) ((fr2 2).cap) 31 7 [(kc25)]), (7, .osl ((fr3 2).ob) ((fr3 2).cap) 94 5 [(kc30)]), (8, .osl ((fr4 2).ob) ((fr4 2).cap) 91 4 rr)] : List (Nat × Ent))) (show ([(kc32 a0_5_0_3)] : List (List Value)) = ([(kc32 a0_5_0_3)] : List (List Value)) from rfl)) ?_
  refine GS.seq ?_
  refine GS.region (env' := fun _ => [(2, .pointer (some ⟨(fr1 1).x, 0, none⟩))]) (mem' := fun _ => [(5, .cells ((fr1 1).x) 28 (kc33 ((fr2 2).ob) ((fr2 2).cap) ((fr3 2).ob) ((fr3 2).cap) ((fr4 2).ob) ((fr4 2).cap))), (6, .osl ((fr2 2).ob) ((fr2 2).cap) 31 7 [(kc25)]), (7, .osl ((fr3 2).ob) ((fr3 2).cap) 94 5 [(kc30)]), (8, .osl ((fr4 2).ob) ((fr4 2).cap) 91 4 [(kc32 a0_5_0_3)])]) (RunsTo.mk [(0, { act := .load 4 0 0 [] }), (1, { act := .store 0 0 [], key := some 5 })] [2] [5, 6, 7, 8] (fun _ => [(fr1 0).x = (fr1 0).x, (fr1 1).x = (fr1 1).x, ((.agg ((kc33 ((fr2 2).ob) ((fr2 2).cap) ((fr3 2).ob) ((fr3 2).cap) ((fr4 2).ob) ((fr4 2).cap))).toArray) : Value).cells.toList.all Value.oneCell' = true]) (fun _ => by kernel_rfl) (fun _ => ⟨rfl, rfl, rfl, trivial⟩)) ?_
  intro _
  have hy := Option.some.inj hm
  subst hy
  refine GS.ret (fn := Tryz.f32) [5] [.agg ((kc33 ((fr2 2).ob) ((fr2 2).cap) ((fr3 2).ob) ((fr3 2).cap) ((fr4 2).ob) ((fr4 2).cap))).toArray] [(fr1 1).x = (fr1 1).x] rfl Tryz.func32 (by kernel_rfl) ⟨rfl, trivial⟩ (fun w' hs => ?_)
  exact ⟨⟨(fr2 2).ob, (fr2 2).cap, (fr3 2).ob, (fr3 2).cap, (fr4 2).ob, (fr4 2).cap⟩, rfl, hs.turnedG (ks := [6, 7, 8]) rfl rfl⟩

theorem w_pglog_Trim (F : Nat) (a0_3_o : Option Addr) (a0_3_c : Nat) (a0_4_o : Option Addr) (a0_4_c : Nat) (a0_5_o : Option Addr) (a0_5_c : Nat) (a0_5_0_3 : Int) {y : Int} (hm : m_pglog_Trim F a0_5_0_3 = some y) : CallG Tryz.prog 34 #[.agg ((kc33 a0_3_o a0_3_c a0_4_o a0_4_c a0_5_o a0_5_c)).toArray, .int .i64 32] (X := Option Addr × Nat × Option Addr × Nat × Option Addr × Nat) (fun ⟨x0, x1, x2, x3, x4, x5⟩ => .agg ((kc33 x0 x1 x2 x3 x4 x5)).toArray) [] [.rd a0_3_o 7 [(kc25)], .rd a0_4_o 5 [(kc30)], .rd a0_5_o 4 [(kc32 a0_5_0_3)]] (fun ⟨x0, x1, x2, x3, x4, x5⟩ => [.osl x0 x1 31 7 [(kc25)], .osl x2 x3 94 5 [(kc30)], .osl x4 x5 91 4 [(kc32 y)]]) := by
  intro w hg
  rw [m_pglog_Trim] at hm
  refine GS.start (S := mayT [] [.rd a0_3_o 7 [(kc25)], .rd a0_4_o 5 [(kc30)], .rd a0_5_o 4 [(kc32 a0_5_0_3)]]) (mem := [(1, .rd a0_3_o 7 [(kc25)]), (2, .rd a0_4_o 5 [(kc30)]), (3, .rd a0_5_o 4 [(kc32 a0_5_0_3)])]) Tryz.func34 rfl Tryz.ntmps34 (Nat.le_of_ble_eq_true rfl) (hg.start rfl) ?_
  refine GS.conv (env' := [(0, .agg ((kc33 a0_3_o a0_3_c a0_4_o a0_4_c a0_5_o a0_5_c)).toArray), (1, .int .i64 32)]) rfl rfl ?_
  refine GS.seq ?_
  refine GS.region (env' := fun fr1 => [(1, .int .i64 32), (2, .pointer (some ⟨(fr1 0).x, 0, none⟩)), (4, .pointer (some ⟨(fr1 1).x, 0, none⟩))]) (mem' := fun fr1 => [(1, .rd a0_3_o 7 [(kc25)]), (2, .rd a0_4_o 5 [(kc30)]), (3, .rd a0_5_o 4 [(kc32 a0_5_0_3)]), (4, .cells ((fr1 0).x) 28 (kc33 a0_3_o a0_3_c a0_4_o a0_4_c a0_5_o a0_5_c)), (5, .cells ((fr1 1).x) 28 (kc8))]) (RunsTo.mk [(0, { act := .new .var, key := some 4 }), (1, { act := .new .var, key := some 5 })] [1, 2, 4] [1, 2, 3, 4, 5] (fun fr1 => []) (fun fr1 => by kernel_rfl) (fun fr1 => trivial)) ?_
  intro fr1
  refine GS.seq ?_
  refine bnd_elim hm (fun y3 e4 hm => ?_)
  refine GS.open_ ?_
  refine GR.run (i := 0) 1 (env' := fun _ => [(1, .int .i64 32), (2, .pointer (some ⟨(fr1 0).x, 0, none⟩)), (4, .pointer (some ⟨(fr1 1).x, 0, none⟩)), (6, .agg ((kc33 a0_3_o a0_3_c a0_4_o a0_4_c a0_5_o a0_5_c)).toArray)]) (mem' := fun _ => [(1, .rd a0_3_o 7 [(kc25)]), (2, .rd a0_4_o 5 [(kc30)]), (3, .rd a0_5_o 4 [(kc32 a0_5_0_3)]), (4, .cells ((fr1 0).x) 28 (kc33 a0_3_o a0_3_c a0_4_o a0_4_c a0_5_o a0_5_c)), (5, .cells ((fr1 1).x) 28 (kc8))]) (Nat.le_of_ble_eq_true (by kernel_rfl)) (RunsTo.mk [(0, { act := .load 4 0 0 [] })] [1, 2, 4, 6] [1, 2, 3, 4, 5] (fun _ => [(fr1 0).x = (fr1 0).x]) (fun _ => by kernel_rfl) (fun _ => ⟨rfl, trivial⟩)) ?_
  intro _
  refine GR.callG (X := Option Addr × Nat × Option Addr × Nat × Option Addr × Nat) (i := 1) (g := 32) (args := #[.agg ((kc33 a0_3_o a0_3_c a0_4_o a0_4_c a0_5_o a0_5_c)).toArray]) (v := fun ⟨x5, x6, x7, x8, x9, x10⟩ => .agg ((kc33 x5 x6 x7 x8 x9 x10)).toArray) (own := []) (ro := [.rd a0_3_o 7 [(kc25)], .rd a0_4_o 5 [(kc30)], .rd a0_5_o 4 [(kc32 a0_5_0_3)]]) (es' := fun ⟨x5, x6, x7, x8, x9, x10⟩ => [.osl x5 x6 31 7 [(kc25)], .osl x7 x8 94 5 [(kc30)], .osl x9 x10 91 4 [(kc32 y3)]]) (mem' := fun ⟨x5, x6, x7, x8, x9, x10⟩ => [(1, .rd a0_3_o 7 [(kc25)]), (2, .rd a0_4_o 5 [(kc30)]), (3, .rd a0_5_o 4 [(kc32 a0_5_0_3)]), (4, .cells ((fr1 0).x) 28 (kc33 a0_3_o a0_3_c a0_4_o a0_4_c a0_5_o a0_5_c)), (5, .cells ((fr1 1).x) 28 (kc8)), (6, .osl x5 x6 31 7 [(kc25)]), (7, .osl x7 x8 94 5 [(kc30)]), (8, .osl x9 x10 91 4 [(kc32 y3)])]) (env' := fun ⟨x5, x6, x7, x8, x9, x10⟩ => [(1, .int .i64 32), (2, .pointer (some ⟨(fr1 0).x, 0, none⟩)), (4, .pointer (some ⟨(fr1 1).x, 0, none⟩)), (7, .agg ((kc33 x5 x6 x7 x8 x9 x10)).toArray)]) [] [6, 7, 8] [1, 2, 4, 7] [1, 2, 3, 4, 5, 6, 7, 8] false (by kernel_rfl) (by kernel_rfl) (by kernel_rfl) (by kernel_rfl) (by kernel_rfl) (fun _ => rfl) (fun _ _ => rfl) ⟨(.inl ⟨1, _, rfl, rfl, Cov.refl _, fun h => by cases h⟩), (.inl ⟨2, _, rfl, rfl, Cov.refl _, fun h => by cases h⟩), (.inl ⟨3, _, rfl, rfl, Cov.refl _, fun h => by cases h⟩), trivial⟩ (by rintro ⟨x5, x6, x7, x8, x9, x10⟩; kernel_rfl) (by rintro ⟨x5, x6, x7, x8, x9, x10⟩; kernel_rfl) ((by have h1 := w_pglog_Copy_4 F a0_3_o a0_3_c a0_4_o a0_4_c a0_5_o a0_5_c a0_5_0_3 e4; exact h1)) ?_
  rintro ⟨x5, x6, x7, x8, x9, x10⟩
  refine GR.run (i := 2) 1 (env' := fun _ => [(1, .int .i64 32), (2, .pointer (some ⟨(fr1 0).x, 0, none⟩)), (4, .pointer (some ⟨(fr1 1).x, 0, none⟩))]) (mem' := fun _ => [(4, .cells ((fr1 0).x) 28 (kc33 x5 x6 x7 x8 x9 x10)), (5, .cells ((fr1 1).x) 28 (kc8)), (6, .osl x5 x6 31 7 [(kc25)]), (7, .osl x7 x8 94 5 [(kc30)]), (8, .osl x9 x10 91 4 [(kc32 y3)])]) (Nat.le_of_ble_eq_true (by kernel_rfl)) (RunsTo.mk [(2, { act := .store 0 0 [], key := some 4 })] [1, 2, 4] [4, 5, 6, 7, 8] (fun _ => [(fr1 0).x = (fr1 0).x, ((.agg ((kc33 x5 x6 x7 x8 x9 x10)).toArray) : Value).cells.toList.all Value.oneCell' = true]) (fun _ => by kernel_rfl) (fun _ => ⟨rfl, rfl, trivial⟩)) ?_
  intro _
  refine GR.done (Nat.le_of_ble_eq_true (by kernel_rfl)) ?_
  refine GS.seq ?_
  refine GS.seq ?_
  refine GS.region (env' := fun _ => [(2, .pointer (some ⟨(fr1 0).x, 0, none⟩)), (4, .pointer (some ⟨(fr1 1).x, 0, none⟩)), (5, .int .i64 (-31))]) (mem' := fun _ => [(4, .cells ((fr1 0).x) 28 (kc33 x5 x6 x7 x8 x9 x10)), (5, .cells ((fr1 1).x) 28 (kc8)), (6, .osl x5 x6 31 7 [(kc25)]), (7, .osl x7 x8 94 5 [(kc30)]), (8, .osl x9 x10 91 4 [(kc32 y3)])]) (RunsTo.mk [(1, { act := .load 4 0 0 [] })] [2, 4, 5] [4, 5, 6, 7, 8] (fun _ => [(fr1 0).x = (fr1 0).x]) (fun _ => by kernel_rfl) (fun _ => ⟨rfl, trivial⟩)) ?_
  intro _
  refine GS.seq ?_
  refine GS.region (env' := fun _ => [(2, .pointer (some ⟨(fr1 0).x, 0, none⟩)), (4, .pointer (some ⟨(fr1 1).x, 0, none⟩)), (5, .int .i64 (-31)), (15, .bool false)]) (mem' := fun _ => [(4, .cells ((fr1 0).x) 28 (kc33 x5 x6 x7 x8 x9 x10)), (5, .cells ((fr1 1).x) 28 (kc8)), (6, .osl x5 x6 31 7 [(kc25)]), (7, .osl x7 x8 94 5 [(kc30)]), (8, .osl x9 x10 91 4 [(kc32 y3)])]) (RunsTo.mk [] [2, 4, 5, 15] [4, 5, 6, 7, 8] (fun _ => []) (fun _ => by kernel_rfl) (fun _ => trivial)) ?_
  intro _
  refine GS.cond (t := false) rfl rfl (fun hf => by cases hf) (fun _ => ?_)
  refine GS.skip ?_
  refine GS.seq ?_
  refine GS.region (env' := fun _ => [(4, .pointer (some ⟨(fr1 1).x, 0, none⟩))]) (mem' := fun _ => [(5, .cells ((fr1 1).x) 28 (kc33 x5 x6 x7 x8 x9 x10)), (6, .osl x5 x6 31 7 [(kc25)]), (7, .osl x7 x8 94 5 [(kc30)]), (8, .osl x9 x10 91 4 [(kc32 y3)])]) (RunsTo.mk [(0, { act := .load 4 0 0 [] }), (1, { act := .store 0 0 [], key := some 5 })] [4] [5, 6, 7, 8] (fun _ => [(fr1 0).x = (fr1 0).x, (fr1 1).x = (fr1 1).x, ((.agg ((kc33 x5 x6 x7 x8 x9 x10)).toArray) : Value).cells.toList.all Value.oneCell' = true]) (fun _ => by kernel_rfl) (fun _ => ⟨rfl, rfl, rfl, trivial⟩)) ?_
  intro _
  have hy := Option.some.inj hm
  subst hy
  refine GS.ret (fn := Tryz.f34) [5] [.agg ((kc33 x5 x6 x7 x8 x9 x10)).toArray] [(fr1 1).x = (fr1 1).x] rfl Tryz.func34 (by kernel_rfl) ⟨rfl, trivial⟩ (fun w' hs => ?_)
  exact ⟨⟨x5, x6, x7, x8, x9, x10⟩, rfl, hs.turnedG (ks := [6, 7, 8]) rfl rfl⟩

theorem w_primary_copied (F : Nat) (a0_3_o : Option Addr) (a0_3_c : Nat) {y : Unit} (hm : m_primary_copied F = some y) : CallG Tryz.prog 44 #[.agg ((kc27 a0_3_o a0_3_c)).toArray] (X := Option Addr × Nat) (fun ⟨x0, x1⟩ => .agg ((kc27 x0 x1)).toArray) [] [.rd a0_3_o 1 [[.int .u8 120]]] (fun ⟨x0, x1⟩ => [.osl x0 x1 5 1 [[.int .u8 120]]]) := by
  intro w hg
  rw [m_primary_copied] at hm
  refine GS.start (S := mayT [] [.rd a0_3_o 1 [[.int .u8 120]]]) (mem := [(1, .rd a0_3_o 1 [[.int .u8 120]])]) Tryz.func44 rfl Tryz.ntmps44 (Nat.le_of_ble_eq_true rfl) (hg.start rfl) ?_
  refine GS.conv (env' := [(0, .agg ((kc27 a0_3_o a0_3_c)).toArray)]) rfl rfl ?_
  refine GS.seq ?_
  refine GS.region (env' := fun fr1 => [(1, .pointer (some ⟨(fr1 0).x, 0, none⟩)), (2, .pointer (some ⟨(fr1 1).x, 0, none⟩))]) (mem' := fun fr1 => [(1, .rd a0_3_o 1 [[.int .u8 120]]), (2, .cells ((fr1 0).x) 62 (kc27 a0_3_o a0_3_c)), (3, .cells ((fr1 1).x) 62 (kc37))]) (RunsTo.mk [(0, { act := .new .var, key := some 2 }), (1, { act := .new .var, key := some 3 })] [1, 2] [1, 2, 3] (fun fr1 => []) (fun fr1 => by kernel_rfl) (fun fr1 => trivial)) ?_
  intro fr1
  refine GS.seq ?_
  refine bnd_elim hm (fun y3 e4 hm => ?_)
  refine GS.open_ ?_
  refine GR.run (i := 0) 2 (env' := fun _ => [(1, .pointer (some ⟨(fr1 0).x, 0, none⟩)), (2, .pointer (some ⟨(fr1 1).x, 0, none⟩)), (4, .slice a0_3_o 1 a0_3_c)]) (mem' := fun _ => [(1, .rd a0_3_o 1 [[.int .u8 120]]), (2, .cells ((fr1 0).x) 62 (kc27 a0_3_o a0_3_c)), (3, .cells ((fr1 1).x) 62 (kc37))]) (Nat.le_of_ble_eq_true (by kernel_rfl)) (RunsTo.mk [(1, { act := .load 2 0 0 [] })] [1, 2, 4] [1, 2, 3] (fun _ => [(fr1 0).x = (fr1 0).x]) (fun _ => by kernel_rfl) (fun _ => ⟨rfl, trivial⟩)) ?_
  intro _
  refine GR.callG (X := Option Addr × Nat) (i := 2) (g := 67) (args := #[.slice a0_3_o 1 a0_3_c]) (v := fun ⟨x5, x6⟩ => .slice x5 1 x6) (own := []) (ro := [.rd a0_3_o 1 [[.int .u8 120]]]) (es' := fun ⟨x5, x6⟩ => [.osl x5 x6 5 1 [[.int .u8 120]]]) (mem' := fun ⟨x5, x6⟩ => [(1, .rd a0_3_o 1 [[.int .u8 120]]), (2, .cells ((fr1 0).x) 62 (kc27 a0_3_o a0_3_c)), (3, .cells ((fr1 1).x) 62 (kc37)), (4, .osl x5 x6 5 1 [[.int .u8 120]])]) (env' := fun ⟨x5, x6⟩ => [(1, .pointer (some ⟨(fr1 0).x, 0, none⟩)), (2, .pointer (some ⟨(fr1 1).x, 0, none⟩)), (5, .slice x5 1 x6)]) [] [4] [1, 2, 5] [1, 2, 3, 4] false (by kernel_rfl) (by kernel_rfl) (by kernel_rfl) (by kernel_rfl) (by kernel_rfl) (fun _ => rfl) (fun _ _ => rfl) ⟨(.inl ⟨1, _, rfl, rfl, Cov.refl _, fun h => by cases h⟩), trivial⟩ (by rintro ⟨x5, x6⟩; kernel_rfl) (by rintro ⟨x5, x6⟩; kernel_rfl) ((by have h1 := w_slices_Clone___byte_byte_ F a0_3_o a0_3_c e4; exact h1)) ?_
  rintro ⟨x5, x6⟩
  refine GR.run (i := 3) 2 (env' := fun _ => [(1, .pointer (some ⟨(fr1 0).x, 0, none⟩)), (2, .pointer (some ⟨(fr1 1).x, 0, none⟩))]) (mem' := fun _ => [(2, .cells ((fr1 0).x) 62 (kc27 x5 x6)), (3, .cells ((fr1 1).x) 62 (kc37)), (4, .osl x5 x6 5 1 [[.int .u8 120]])]) (Nat.le_of_ble_eq_true (by kernel_rfl)) (RunsTo.mk [(4, { act := .store 0 0 [], key := some 2 })] [1, 2] [2, 3, 4] (fun _ => [(fr1 0).x = (fr1 0).x, ((.slice x5 1 x6) : Value).cells.toList.all Value.oneCell' = true]) (fun _ => by kernel_rfl) (fun _ => ⟨rfl, rfl, trivial⟩)) ?_
  intro _
  refine GR.done (Nat.le_of_ble_eq_true (by kernel_rfl)) ?_
  refine GS.seq ?_
  refine GS.region (env' := fun _ => [(2, .pointer (some ⟨(fr1 1).x, 0, none⟩))]) (mem' := fun _ => [(3, .cells ((fr1 1).x) 62 (kc27 x5 x6)), (4, .osl x5 x6 5 1 [[.int .u8 120]])]) (RunsTo.mk [(0, { act := .load 2 0 0 [] }), (1, { act := .store 0 0 [], key := some 3 })] [2] [3, 4] (fun _ => [(fr1 0).x = (fr1 0).x, (fr1 1).x = (fr1 1).x, ((.agg ((kc27 x5 x6)).toArray) : Value).cells.toList.all Value.oneCell' = true]) (fun _ => by kernel_rfl) (fun _ => ⟨rfl, rfl, rfl, trivial⟩)) ?_
  intro _
  have hy := Option.some.inj hm
  subst hy
  refine GS.ret (fn := Tryz.f44) [3] [.agg ((kc27 x5 x6)).toArray] [(fr1 1).x = (fr1 1).x] rfl Tryz.func44 (by kernel_rfl) ⟨rfl, trivial⟩ (fun w' hs => ?_)
  exact ⟨⟨x5, x6⟩, rfl, hs.turnedG (ks := [4]) rfl rfl⟩

theorem w___primary_Machine__stored (F : Nat) (a0b : Nat) (a0_5_o : Option Addr) (a0_5_c : Nat) (a0_9_o : Option Addr) (a0_9_c : Nat) (a0_10_o : Option Addr) (a0_10_c : Nat) (a0_11_o : Option Addr) (a0_11_c : Nat) (a0_11_0_3 : Int) (a0_12_o : Option Addr) (a0_12_c : Nat) (a0_13b : Nat) (a0_13_40_o : Option Addr) (a0_13_40_c : Nat) (a0_13_57_o : Option Addr) (a0_13_57_c : Nat) (a0_13_59_o : Option Addr) (a0_13_59_c : Nat) {y : Int} (hm : m___primary_Machine__stored F a0_11_0_3 = some y) : CallG Tryz.prog 90 #[.pointer (some ⟨a0b, 0, none⟩), .pointer (some ⟨a0_13b, 0, none⟩), .agg ((kc3)).toArray] (X := Option Addr × Nat × Option Addr × Nat × Option Addr × Nat × Option Addr × Nat) (fun ⟨x0, x1, x2, x3, x4, x5, x6, x7⟩ => .agg ((kc38 x0 x1 x2 x3 x4 x5 x6 x7)).toArray) [] [.rd a0_5_o 1 [[.int .i64 1]], .rd a0_9_o 7 [(kc25)], .rd a0_10_o 5 [(kc30)], .rd a0_11_o 4 [(kc32 a0_11_0_3)], .rd a0_12_o 46 [], .rd a0_13_40_o 1 [[.int .u8 120]], .rd a0_13_57_o 1 [[.int .u8 120]], .rd a0_13_59_o 1 [[.int .i64 1]], .rd (some ⟨a0_13b, 0, none⟩) 61 [(kc28 a0_13_40_o a0_13_40_c a0_13_57_o a0_13_57_c a0_13_59_o a0_13_59_c)], .rd (some ⟨a0b, 0, none⟩) 17 [(kc35 a0_5_o a0_5_c a0_9_o a0_9_c a0_10_o a0_10_c a0_11_o a0_11_c a0_12_o a0_12_c a0_13b)]] (fun ⟨x0, x1, x2, x3, x4, x5, x6, x7⟩ => [.osl x0 x1 31 7 [(kc25)], .osl x2 x3 94 5 [(kc30)], .osl x4 x5 91 4 [(kc32 y)], .osl x6 x7 5 1 [[.int .u8 120]]]) := by
  intro w hg
  rw [m___primary_Machine__stored] at hm
  refine GS.start (S := mayT [] [.rd a0_5_o 1 [[.int .i64 1]], .rd a0_9_o 7 [(kc25)], .rd a0_10_o 5 [(kc30)], .rd a0_11_o 4 [(kc32 a0_11_0_3)], .rd a0_12_o 46 [], .rd a0_13_40_o 1 [[.int .u8 120]], .rd a0_13_57_o 1 [[.int .u8 120]], .rd a0_13_59_o 1 [[.int .i64 1]], .rd (some ⟨a0_13b, 0, none⟩) 61 [(kc28 a0_13_40_o a0_13_40_c a0_13_57_o a0_13_57_c a0_13_59_o a0_13_59_c)], .rd (some ⟨a0b, 0, none⟩) 17 [(kc35 a0_5_o a0_5_c a0_9_o a0_9_c a0_10_o a0_10_c a0_11_o a0_11_c a0_12_o a0_12_c a0_13b)]]) (mem := [(1, .rd a0_5_o 1 [[.int .i64 1]]), (2, .rd a0_9_o 7 [(kc25)]), (3, .rd a0_10_o 5 [(kc30)]), (4, .rd a0_11_o 4 [(kc32 a0_11_0_3)]), (5, .rd a0_12_o 46 []), (6, .rd a0_13_40_o 1 [[.int .u8 120]]), (7, .rd a0_13_57_o 1 [[.int .u8 120]]), (8, .rd a0_13_59_o 1 [[.int .i64 1]]), (9, .rd (some ⟨a0_13b, 0, none⟩) 61 [(kc28 a0_13_40_o a0_13_40_c a0_13_57_o a0_13_57_c a0_13_59_o a0_13_59_c)]), (10, .rd (some ⟨a0b, 0, none⟩) 17 [(kc35 a0_5_o a0_5_c a0_9_o a0_9_c a0_10_o a0_10_c a0_11_o a0_11_c a0_12_o a0_12_c a0_13b)])]) Tryz.func90 rfl Tryz.ntmps90 (Nat.le_of_ble_eq_true rfl) (hg.start rfl) ?_
  refine GS.conv (env' := [(0, .pointer (some ⟨a0b, 0, none⟩)), (1, .pointer (some ⟨a0_13b, 0, none⟩)), (2, .agg ((kc3)).toArray)]) rfl rfl ?_
  refine GS.seq ?_
  refine GS.region (env' := fun fr1 => [(0, .pointer (some ⟨a0b, 0, none⟩)), (1, .pointer (some ⟨a0_13b, 0, none⟩)), (5, .pointer (some ⟨(fr1 0).x, 0, none⟩)), (6, .pointer (some ⟨(fr1 1).x, 0, none⟩))]) (mem' := fun fr1 => [(1, .rd a0_5_o 1 [[.int .i64 1]]), (2, .rd a0_9_o 7 [(kc25)]), (3, .rd a0_10_o 5 [(kc30)]), (4, .rd a0_11_o 4 [(kc32 a0_11_0_3)]), (5, .rd a0_12_o 46 []), (6, .rd a0_13_40_o 1 [[.int .u8 120]]), (7, .rd a0_13_57_o 1 [[.int .u8 120]]), (8, .rd a0_13_59_o 1 [[.int .i64 1]]), (9, .rd (some ⟨a0_13b, 0, none⟩) 61 [(kc28 a0_13_40_o a0_13_40_c a0_13_57_o a0_13_57_c a0_13_59_o a0_13_59_c)]), (10, .rd (some ⟨a0b, 0, none⟩) 17 [(kc35 a0_5_o a0_5_c a0_9_o a0_9_c a0_10_o a0_10_c a0_11_o a0_11_c a0_12_o a0_12_c a0_13b)]), (11, .cells ((fr1 0).x) 68 (kc3)), (12, .cells ((fr1 1).x) 68 (kc3))]) (RunsTo.mk [(0, { act := .new .var, key := some 11 }), (1, { act := .new .var, key := some 12 })] [0, 1, 5, 6] [1, 2, 3, 4, 5, 6, 7, 8, 9, 10, 11, 12] (fun fr1 => []) (fun fr1 => by kernel_rfl) (fun fr1 => trivial)) ?_
  intro fr1
  refine GS.seq ?_
  refine bnd_elim hm (fun y3 e4 hm => ?_)
  refine GS.open_ ?_
  refine GR.run (i := 0) 4 (env' := fun _ => [(1, .pointer (some ⟨a0_13b, 0, none⟩)), (5, .pointer (some ⟨(fr1 0).x, 0, none⟩)), (6, .pointer (some ⟨(fr1 1).x, 0, none⟩)), (10, .agg ((kc33 a0_9_o a0_9_c a0_10_o a0_10_c a0_11_o a0_11_c)).toArray)]) (mem' := fun _ => [(2, .rd a0_9_o 7 [(kc25)]), (3, .rd a0_10_o 5 [(kc30)]), (4, .rd a0_11_o 4 [(kc32 a0_11_0_3)]), (6, .rd a0_13_40_o 1 [[.int .u8 120]]), (7, .rd a0_13_57_o 1 [[.int .u8 120]]), (8, .rd a0_13_59_o 1 [[.int .i64 1]]), (9, .rd (some ⟨a0_13b, 0, none⟩) 61 [(kc28 a0_13_40_o a0_13_40_c a0_13_57_o a0_13_57_c a0_13_59_o a0_13_59_c)]), (11, .cells ((fr1 0).x) 68 (kc3)), (12, .cells ((fr1 1).x) 68 (kc3))]) (Nat.le_of_ble_eq_true (by kernel_rfl)) (RunsTo.mk [(3, { act := .load 10 0 6 [.int .i64 1, .int .i64 0, .int .i64 3, .int .i64 0, .int .i64 9, .slice a0_5_o 1 a0_5_c, .int .i64 3, .int .i64 0, .int .i64 0, .slice a0_9_o 1 a0_9_c, .slice a0_10_o 1 a0_10_c, .slice a0_11_o 1 a0_11_c, .slice a0_12_o 0 a0_12_c, .pointer (some ⟨a0_13b, 0, none⟩), .bool false, .int .i64 0, .bool true] })] [1, 5, 6, 10] [2, 3, 4, 6, 7, 8, 9, 11, 12] (fun _ => [a0b = blk (some ⟨a0b, 0, none⟩), 6 = offs (some ⟨a0b, 0, none⟩) + (0 * 17 + 6), ([(kc35 a0_5_o a0_5_c a0_9_o a0_9_c a0_10_o a0_10_c a0_11_o a0_11_c a0_12_o a0_12_c a0_13b)] : List (List Value))[0]? = some [.int .i64 1, .int .i64 0, .int .i64 3, .int .i64 0, .int .i64 9, .slice a0_5_o 1 a0_5_c, .int .i64 3, .int .i64 0, .int .i64 0, .slice a0_9_o 1 a0_9_c, .slice a0_10_o 1 a0_10_c, .slice a0_11_o 1 a0_11_c, .slice a0_12_o 0 a0_12_c, .pointer (some ⟨a0_13b, 0, none⟩), .bool false, .int .i64 0, .bool true]]) (fun _ => by kernel_rfl) (fun _ => ⟨rfl, rfl, rfl, trivial⟩)) ?_
  intro _
  refine GR.callG (X := Option Addr × Nat × Option Addr × Nat × Option Addr × Nat) (i := 4) (g := 32) (args := #[.agg ((kc33 a0_9_o a0_9_c a0_10_o a0_10_c a0_11_o a0_11_c)).toArray]) (v := fun ⟨x5, x6, x7, x8, x9, x10⟩ => .agg ((kc33 x5 x6 x7 x8 x9 x10)).toArray) (own := []) (ro := [.rd a0_9_o 7 [(kc25)], .rd a0_10_o 5 [(kc30)], .rd a0_11_o 4 [(kc32 a0_11_0_3)]]) (es' := fun ⟨x5, x6, x7, x8, x9, x10⟩ => [.osl x5 x6 31 7 [(kc25)], .osl x7 x8 94 5 [(kc30)], .osl x9 x10 91 4 [(kc32 y3)]]) (mem' := fun ⟨x5, x6, x7, x8, x9, x10⟩ => [(2, .rd a0_9_o 7 [(kc25)]), (3, .rd a0_10_o 5 [(kc30)]), (4, .rd a0_11_o 4 [(kc32 a0_11_0_3)]), (6, .rd a0_13_40_o 1 [[.int .u8 120]]), (7, .rd a0_13_57_o 1 [[.int .u8 120]]), (8, .rd a0_13_59_o 1 [[.int .i64 1]]), (9, .rd (some ⟨a0_13b, 0, none⟩) 61 [(kc28 a0_13_40_o a0_13_40_c a0_13_57_o a0_13_57_c a0_13_59_o a0_13_59_c)]), (11, .cells ((fr1 0).x) 68 (kc3)), (12, .cells ((fr1 1).x) 68 (kc3)), (13, .osl x5 x6 31 7 [(kc25)]), (14, .osl x7 x8 94 5 [(kc30)]), (15, .osl x9 x10 91 4 [(kc32 y3)])]) (env' := fun ⟨x5, x6, x7, x8, x9, x10⟩ => [(1, .pointer (some ⟨a0_13b, 0, none⟩)), (5, .pointer (some ⟨(fr1 0).x, 0, none⟩)), (6, .pointer (some ⟨(fr1 1).x, 0, none⟩)), (11, .agg ((kc33 x5 x6 x7 x8 x9 x10)).toArray)]) [] [13, 14, 15] [1, 5, 6, 11] [2, 3, 4, 6, 7, 8, 9, 11, 12, 13, 14, 15] false (by kernel_rfl) (by kernel_rfl) (by kernel_rfl) (by kernel_rfl) (by kernel_rfl) (fun _ => rfl) (fun _ _ => rfl) ⟨(.inl ⟨2, _, rfl, rfl, Cov.refl _, fun h => by cases h⟩), (.inl ⟨3, _, rfl, rfl, Cov.refl _, fun h => by cases h⟩), (.inl ⟨4, _, rfl, rfl, Cov.refl _, fun h => by cases h⟩), trivial⟩ (by rintro ⟨x5, x6, x7, x8, x9, x10⟩; kernel_rfl) (by rintro ⟨x5, x6, x7, x8, x9, x10⟩; kernel_rfl) ((by have h1 := w_pglog_Copy_4 F a0_9_o a0_9_c a0_10_o a0_10_c a0_11_o a0_11_c a0_11_0_3 e4; exact h1)) ?_
  rintro ⟨x5, x6, x7, x8, x9, x10⟩
  refine GR.run (i := 5) 4 (env' := fun _ => [(1, .pointer (some ⟨a0_13b, 0, none⟩)), (5, .pointer (some ⟨(fr1 0).x, 0, none⟩)), (6, .pointer (some ⟨(fr1 1).x, 0, none⟩))]) (mem' := fun _ => [(6, .rd a0_13_40_o 1 [[.int .u8 120]]), (7, .rd a0_13_57_o 1 [[.int .u8 120]]), (8, .rd a0_13_59_o 1 [[.int .i64 1]]), (9, .rd (some ⟨a0_13b, 0, none⟩) 61 [(kc28 a0_13_40_o a0_13_40_c a0_13_57_o a0_13_57_c a0_13_59_o a0_13_59_c)]), (11, .cells ((fr1 0).x) 68 (kc36 x5 x6 x7 x8 x9 x10)), (12, .cells ((fr1 1).x) 68 (kc3)), (13, .osl x5 x6 31 7 [(kc25)]), (14, .osl x7 x8 94 5 [(kc30)]), (15, .osl x9 x10 91 4 [(kc32 y3)])]) (Nat.le_of_ble_eq_true (by kernel_rfl)) (RunsTo.mk [(6, { act := .store 0 0 [], key := some 11 }), (8, { act := .store 0 0 [], key := some 11 })] [1, 5, 6] [6, 7, 8, 9, 11, 12, 13, 14, 15] (fun _ => [(fr1 0).x = (fr1 0).x, ((.bool true) : Value).cells.toList.all Value.oneCell' = true, (fr1 0).x = (fr1 0).x, ((.agg ((kc33 x5 x6 x7 x8 x9 x10)).toArray) : Value).cells.toList.all Value.oneCell' = true]) (fun _ => by kernel_rfl) (fun _ => ⟨rfl, rfl, rfl, rfl, trivial⟩)) ?_
  intro _
  refine GR.done (Nat.le_of_ble_eq_true (by kernel_rfl)) ?_
  refine GS.seq ?_
  refine GS.seq ?_
  refine GS.region (env' := fun _ => [(1, .pointer (some ⟨a0_13b, 0, none⟩)), (5, .pointer (some ⟨(fr1 0).x, 0, none⟩)), (6, .pointer (some ⟨(fr1 1).x, 0, none⟩)), (19, .bool true)]) (mem' := fun _ => [(6, .rd a0_13_40_o 1 [[.int .u8 120]]), (7, .rd a0_13_57_o 1 [[.int .u8 120]]), (8, .rd a0_13_59_o 1 [[.int .i64 1]]), (9, .rd (some ⟨a0_13b, 0, none⟩) 61 [(kc28 a0_13_40_o a0_13_40_c a0_13_57_o a0_13_57_c a0_13_59_o a0_13_59_c)]), (11, .cells ((fr1 0).x) 68 (kc36 x5 x6 x7 x8 x9 x10)), (12, .cells ((fr1 1).x) 68 (kc3)), (13, .osl x5 x6 31 7 [(kc25)]), (14, .osl x7 x8 94 5 [(kc30)]), (15, .osl x9 x10 91 4 [(kc32 y3)])]) (RunsTo.mk [(4, { act := .load 9 0 50 [.int .i64 30, .int .i64 3, .int .i64 0, .int .i64 2, .int .i64 0, .int .i64 0, .int .i64 0, .int .i64 1, .int .i64 0, .int .i64 5, .int .i64 1, .int .i64 0, .slice none 0 0, .slice none 0 0, .slice none 0 0, .int .i64 0, .int .i64 0, .int .i64 0, .int .i64 0, .int .i64 0, .int .i64 0, .int .i64 0, .int .i64 0, .int .i64 0, .slice none 0 0, .slice none 0 0, .slice none 0 0, .int .i64 0, .int .i64 0, .bool false, .int .i64 0, .string (ByteArray.mk #[]), .int .i64 0, .int .i64 0, .string (ByteArray.mk #[]), .int .i64 0, .int .i64 0, .slice none 0 0, .int .i64 2, .string (ByteArray.mk #[97]), .slice a0_13_40_o 1 a0_13_40_c, .int .i64 0, .int .i64 0, .slice none 0 0, .slice none 0 0, .int .i64 0, .bool true, .int .i64 3, .int .i64 1, .bool false, .int .i64 0, .string (ByteArray.mk #[97]), .int .i64 5, .int .i64 1, .string (ByteArray.mk #[97]), .int .i64 3, .int .i64 1, .slice a0_13_57_o 1 a0_13_57_c, .int .i64 0, .slice a0_13_59_o 1 a0_13_59_c, .bool false] })] [1, 5, 6, 19] [6, 7, 8, 9, 11, 12, 13, 14, 15] (fun _ => [a0_13b = blk (some ⟨a0_13b, 0, none⟩), 50 = offs (some ⟨a0_13b, 0, none⟩) + (0 * 61 + 50), ([(kc28 a0_13_40_o a0_13_40_c a0_13_57_o a0_13_57_c a0_13_59_o a0_13_59_c)] : List (List Value))[0]? = some [.int .i64 30, .int .i64 3, .int .i64 0, .int .i64 2, .int .i64 0, .int .i64 0, .int .i64 0, .int .i64 1, .int .i64 0, .int .i64 5, .int .i64 1, .int .i64 0, .slice none 0 0, .slice none 0 0, .slice none 0 0, .int .i64 0, .int .i64 0, .int .i64 0, .int .i64 0, .int .i64 0, .int .i64 0, .int .i64 0, .int .i64 0, .int .i64 0, .slice none 0 0, .slice none 0 0, .slice none 0 0, .int .i64 0, .int .i64 0, .bool false, .int .i64 0, .string (ByteArray.mk #[]), .int .i64 0, .int .i64 0, .string (ByteArray.mk #[]), .int .i64 0, .int .i64 0, .slice none 0 0, .int .i64 2, .string (ByteArray.mk #[97]), .slice a0_13_40_o 1 a0_13_40_c, .int .i64 0, .int .i64 0, .slice none 0 0, .slice none 0 0, .int .i64 0, .bool true, .int .i64 3, .int .i64 1, .bool false, .int .i64 0, .string (ByteArray.mk #[97]), .int .i64 5, .int .i64 1, .string (ByteArray.mk #[97]), .int .i64 3, .int .i64 1, .slice a0_13_57_o 1 a0_13_57_c, .int .i64 0, .slice a0_13_59_o 1 a0_13_59_c, .bool false]]) (fun _ => by kernel_rfl) (fun _ => ⟨rfl, rfl, rfl, trivial⟩)) ?_
  intro _
  refine GS.cond (t := true) rfl rfl (fun _ => ?_) (fun hf => by cases hf)
  refine GS.seq ?_
  refine GS.region (env' := fun _ => [(1, .pointer (some ⟨a0_13b, 0, none⟩)), (5, .pointer (some ⟨(fr1 0).x, 0, none⟩)), (6, .pointer (some ⟨(fr1 1).x, 0, none⟩)), (24, .bool false)]) (mem' := fun _ => [(6, .rd a0_13_40_o 1 [[.int .u8 120]]), (7, .rd a0_13_57_o 1 [[.int .u8 120]]), (8, .rd a0_13_59_o 1 [[.int .i64 1]]), (9, .rd (some ⟨a0_13b, 0, none⟩) 61 [(kc28 a0_13_40_o a0_13_40_c a0_13_57_o a0_13_57_c a0_13_59_o a0_13_59_c)]), (11, .cells ((fr1 0).x) 68 (kc36 x5 x6 x7 x8 x9 x10)), (12, .cells ((fr1 1).x) 68 (kc3)), (13, .osl x5 x6 31 7 [(kc25)]), (14, .osl x7 x8 94 5 [(kc30)]), (15, .osl x9 x10 91 4 [(kc32 y3)])]) (RunsTo.mk [(4, { act := .load 9 0 49 [.int .i64 30, .int .i64 3, .int .i64 0, .int .i64 2, .int .i64 0, .int .i64 0, .int .i64 0, .int .i64 1, .int .i64 0, .int .i64 5, .int .i64 1, .int .i64 0, .slice none 0 0, .slice none 0 0, .slice none 0 0, .int .i64 0, .int .i64 0, .int .i64 0, .int .i64 0, .int .i64 0, .int .i64 0, .int .i64 0, .int .i64 0, .int .i64 0, .slice none 0 0, .slice none 0 0, .slice none 0 0, .int .i64 0, .int .i64 0, .bool false, .int .i64 0, .string (ByteArray.mk #[]), .int .i64 0, .int .i64 0, .string (ByteArray.mk #[]), .int .i64 0, .int .i64 0, .slice none 0 0, .int .i64 2, .string (ByteArray.mk #[97]), .slice a0_13_40_o 1 a0_13_40_c, .int .i64 0, .int .i64 0, .slice none 0 0, .slice none 0 0, .int .i64 0, .bool true, .int .i64 3, .int .i64 1, .bool false, .int .i64 0, .string (ByteArray.mk #[97]), .int .i64 5, .int .i64 1, .string (ByteArray.mk #[97]), .int .i64 3, .int .i64 1, .slice a0_13_57_o 1 a0_13_57_c, .int .i64 0, .slice a0_13_59_o 1 a0_13_59_c, .bool false] })] [1, 5, 6, 24] [6, 7, 8, 9, 11, 12, 13, 14, 15] (fun _ => [a0_13b = blk (some ⟨a0_13b, 0, none⟩), 49 = offs (some ⟨a0_13b, 0, none⟩) + (0 * 61 + 49), ([(kc28 a0_13_40_o a0_13_40_c a0_13_57_o a0_13_57_c a0_13_59_o a0_13_59_c)] : List (List Value))[0]? = some [.int .i64 30, .int .i64 3, .int .i64 0, .int .i64 2, .int .i64 0, .int .i64 0, .int .i64 0, .int .i64 1, .int .i64 0, .int .i64 5, .int .i64 1, .int .i64 0, .slice none 0 0, .slice none 0 0, .slice none 0 0, .int .i64 0, .int .i64 0, .int .i64 0, .int .i64 0, .int .i64 0, .int .i64 0, .int .i64 0, .int .i64 0, .int .i64 0, .slice none 0 0, .slice none 0 0, .slice none 0 0, .int .i64 0, .int .i64 0, .bool false, .int .i64 0, .string (ByteArray.mk #[]), .int .i64 0, .int .i64 0, .string (ByteArray.mk #[]), .int .i64 0, .int .i64 0, .slice none 0 0, .int .i64 2, .string (ByteArray.mk #[97]), .slice a0_13_40_o 1 a0_13_40_c, .int .i64 0, .int .i64 0, .slice none 0 0, .slice none 0 0, .int .i64 0, .bool true, .int .i64 3, .int .i64 1, .bool false, .int .i64 0, .string (ByteArray.mk #[97]), .int .i64 5, .int .i64 1, .string (ByteArray.mk #[97]), .int .i64 3, .int .i64 1, .slice a0_13_57_o 1 a0_13_57_c, .int .i64 0, .slice a0_13_59_o 1 a0_13_59_c, .bool false]]) (fun _ => by kernel_rfl) (fun _ => ⟨rfl, rfl, rfl, trivial⟩)) ?_
  intro _
  refine GS.cond (t := false) rfl rfl (fun hf => by cases hf) (fun _ => ?_)
  refine bnd_elim hm (fun y15 e16 hm => ?_)
  refine GS.open_ ?_
  refine GR.run (i := 0) 4 (env' := fun _ => [(5, .pointer (some ⟨(fr1 0).x, 0, none⟩)), (6, .pointer (some ⟨(fr1 1).x, 0, none⟩)), (35, .agg ((kc27 a0_13_57_o a0_13_57_c)).toArray)]) (mem' := fun _ => [(7, .rd a0_13_57_o 1 [[.int .u8 120]]), (11, .cells ((fr1 0).x) 68 (kc36 x5 x6 x7 x8 x9 x10)), (12, .cells ((fr1 1).x) 68 (kc3)), (13, .osl x5 x6 31 7 [(kc25)]), (14, .osl x7 x8 94 5 [(kc30)]), (15, .osl x9 x10 91 4 [(kc32 y3)])]) (Nat.le_of_ble_eq_true (by kernel_rfl)) (RunsTo.mk [(3, { act := .load 9 0 54 [.int .i64 30, .int .i64 3, .int .i64 0, .int .i64 2, .int .i64 0, .int .i64 0, .int .i64 0, .int .i64 1, .int .i64 0, .int .i64 5, .int .i64 1, .int .i64 0, .slice none 0 0, .slice none 0 0, .slice none 0 0, .int .i64 0, .int .i64 0, .int .i64 0, .int .i64 0, .int .i64 0, .int .i64 0, .int .i64 0, .int .i64 0, .int .i64 0, .slice none 0 0, .slice none 0 0, .slice none 0 0, .int .i64 0, .int .i64 0, .bool false, .int .i64 0, .string (ByteArray.mk #[]), .int .i64 0, .int .i64 0, .string (ByteArray.mk #[]), .int .i64 0, .int .i64 0, .slice none 0 0, .int .i64 2, .string (ByteArray.mk #[97]), .slice a0_13_40_o 1 a0_13_40_c, .int .i64 0, .int .i64 0, .slice none 0 0, .slice none 0 0, .int .i64 0, .bool true, .int .i64 3, .int .i64 1, .bool false, .int .i64 0, .string (ByteArray.mk #[97]), .int .i64 5, .int .i64 1, .string (ByteArray.mk #[97]), .int .i64 3, .int .i64 1, .slice a0_13_57_o 1 a0_13_57_c, .int .i64 0, .slice a0_13_59_o 1 a0_13_59_c, .bool false] })] [5, 6, 35] [7, 11, 12, 13, 14, 15] (fun _ => [a0_13b = blk (some ⟨a0_13b, 0, none⟩), 54 = offs (some ⟨a0_13b, 0, none⟩) + (0 * 61 + 54), ([(kc28 a0_13_40_o a0_13_40_c a0_13_57_o a0_13_57_c a0_13_59_o a0_13_59_c)] : List (List Value))[0]? = some [.int .i64 30, .int .i64 3, .int .i64 0, .int .i64 2, .int .i64 0, .int .i64 0, .int .i64 0, .int .i64 1, .int .i64 0, .int .i64 5, .int .i64 1, .int .i64 0, .slice none 0 0, .slice none 0 0, .slice none 0 0, .int .i64 0, .int .i64 0, .int .i64 0, .int .i64 0, .int .i64 0, .int .i64 0, .int .i64 0, .int .i64 0, .int .i64 0, .slice none 0 0, .slice none 0 0, .slice none 0 0, .int .i64 0, .int .i64 0, .bool false, .int .i64 0, .string (ByteArray.mk #[]), .int .i64 0, .int .i64 0, .string (ByteArray.mk #[]), .int .i64 0, .int .i64 0, .slice none 0 0, .int .i64 2, .string (ByteArray.mk #[97]), .slice a0_13_40_o 1 a0_13_40_c, .int .i64 0, .int .i64 0, .slice none 0 0, .slice none 0 0, .int .i64 0, .bool true, .int .i64 3, .int .i64 1, .bool false, .int .i64 0, .string (ByteArray.mk #[97]), .int .i64 5, .int .i64 1, .string (ByteArray.mk #[97]), .int .i64 3, .int .i64 1, .slice a0_13_57_o 1 a0_13_57_c, .int .i64 0, .slice a0_13_59_o 1 a0_13_59_c, .bool false]]) (fun _ => by kernel_rfl) (fun _ => ⟨rfl, rfl, rfl, trivial⟩)) ?_
  intro _
  refine GR.callG (X := Option Addr × Nat) (i := 4) (g := 44) (args := #[.agg ((kc27 a0_13_57_o a0_13_57_c)).toArray]) (v := fun ⟨x17, x18⟩ => .agg ((kc27 x17 x18)).toArray) (own := []) (ro := [.rd a0_13_57_o 1 [[.int .u8 120]]]) (es' := fun ⟨x17, x18⟩ => [.osl x17 x18 5 1 [[.int .u8 120]]]) (mem' := fun ⟨x17, x18⟩ => [(7, .rd a0_13_57_o 1 [[.int .u8 120]]), (11, .cells ((fr1 0).x) 68 (kc36 x5 x6 x7 x8 x9 x10)), (12, .cells ((fr1 1).x) 68 (kc3)), (13, .osl x5 x6 31 7 [(kc25)]), (14, .osl x7 x8 94 5 [(kc30)]), (15, .osl x9 x10 91 4 [(kc32 y3)]), (16, .osl x17 x18 5 1 [[.int .u8 120]])]) (env' := fun ⟨x17, x18⟩ => [(5, .pointer (some ⟨(fr1 0).x, 0, none⟩)), (6, .pointer (some ⟨(fr1 1).x, 0, none⟩)), (36, .agg ((kc27 x17 x18)).toArray)]) [] [16] [5, 6, 36] [7, 11, 12, 13, 14, 15, 16] false (by kernel_rfl) (by kernel_rfl) (by kernel_rfl) (by kernel_rfl) (by kernel_rfl) (fun _ => rfl) (fun _ _ => rfl) ⟨(.inl ⟨7, _, rfl, rfl, Cov.refl _, fun h => by cases h⟩), trivial⟩ (by rintro ⟨x17, x18⟩; kernel_rfl) (by rintro ⟨x17, x18⟩; kernel_rfl) ((by have h1 := w_primary_copied F a0_13_57_o a0_13_57_c e16; exact h1)) ?_
  rintro ⟨x17, x18⟩
  refine GR.run (i := 5) 4 (env' := fun _ => [(5, .pointer (some ⟨(fr1 0).x, 0, none⟩)), (6, .pointer (some ⟨(fr1 1).x, 0, none⟩))]) (mem' := fun _ => [(11, .cells ((fr1 0).x) 68 (kc38 x5 x6 x7 x8 x9 x10 x17 x18)), (12, .cells ((fr1 1).x) 68 (kc3)), (13, .osl x5 x6 31 7 [(kc25)]), (14, .osl x7 x8 94 5 [(kc30)]), (15, .osl x9 x10 91 4 [(kc32 y3)]), (16, .osl x17 x18 5 1 [[.int .u8 120]])]) (Nat.le_of_ble_eq_true (by kernel_rfl)) (RunsTo.mk [(6, { act := .store 0 0 [], key := some 11 }), (8, { act := .store 0 0 [], key := some 11 })] [5, 6] [11, 12, 13, 14, 15, 16] (fun _ => [(fr1 0).x = (fr1 0).x, ((.bool true) : Value).cells.toList.all Value.oneCell' = true, (fr1 0).x = (fr1 0).x, ((.agg ((kc27 x17 x18)).toArray) : Value).cells.toList.all Value.oneCell' = true]) (fun _ => by kernel_rfl) (fun _ => ⟨rfl, rfl, rfl, rfl, trivial⟩)) ?_
  intro _
  refine GR.done (Nat.le_of_ble_eq_true (by kernel_rfl)) ?_
  refine GS.seq ?_
  refine GS.region (env' := fun _ => [(6, .pointer (some ⟨(fr1 1).x, 0, none⟩))]) (mem' := fun _ => [(12, .cells ((fr1 1).x) 68 (kc38 x5 x6 x7 x8 x9 x10 x17 x18)), (13, .osl x5 x6 31 7 [(kc25)]), (14, .osl x7 x8 94 5 [(kc30)]), (15, .osl x9 x10 91 4 [(kc32 y3)]), (16, .osl x17 x18 5 1 [[.int .u8 120]])]) (RunsTo.mk [(0, { act := .load 11 0 0 [] }), (1, { act := .store 0 0 [], key := some 12 })] [6] [12, 13, 14, 15, 16] (fun _ => [(fr1 0).x = (fr1 0).x, (fr1 1).x = (fr1 1).x, ((.agg ((kc38 x5 x6 x7 x8 x9 x10 x17 x18)).toArray) : Value).cells.toList.all Value.oneCell' = true]) (fun _ => by kernel_rfl) (fun _ => ⟨rfl, rfl, rfl, trivial⟩)) ?_
  intro _
  have hy := Option.some.inj hm
  subst hy
  refine GS.ret (fn := Tryz.f90) [12] [.agg ((kc38 x5 x6 x7 x8 x9 x10 x17 x18)).toArray] [(fr1 1).x = (fr1 1).x] rfl Tryz.func90 (by kernel_rfl) ⟨rfl, trivial⟩ (fun w' hs => ?_)
  exact ⟨⟨x5, x6, x7, x8, x9, x10, x17, x18⟩, rfl, hs.turnedG (ks := [13, 14, 15, 16]) rfl rfl⟩

end Go.Proofs.YtjnbkhnebmlilaaGreat
