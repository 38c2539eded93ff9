/-
  CHAPTER 18n: the functions do what their models say (3).
-/
import Derived.Test.YtjnbkhnebmlilaaGreatE18n
import Derived.Test.YtjnbkhnebmlilaaGreatW18nb
set_option linter.unusedVariables false
set_option linter.unusedSimpArgs false
set_option maxRecDepth 100000
set_option maxHeartbeats 8000000
namespace Go.Proofs.YtjnbkhnebmlilaaGreat
open Go Go.RowKit Sx

theorem w_pglog_Check (F : Nat) {y : Unit} (hm : m_pglog_Check F = some y) : CallG Tryz.prog 41 #[.agg ((kc13)).toArray] (X := Unit) (fun (_ : Unit) => .int .i64 0) [] [] (fun (_ : Unit) => []) := by
  intro w hg
  rw [m_pglog_Check] at hm
  refine GS.start (S := mayT [] []) (mem := []) Tryz.func41 rfl Tryz.ntmps41 (Nat.le_of_ble_eq_true rfl) (hg.start rfl) ?_
  refine GS.conv (env' := [(0, .agg ((kc13)).toArray)]) rfl rfl ?_
  refine GS.seq ?_
  refine GS.region (env' := fun fr1 => [(1, .pointer (some ⟨(fr1 0).x, 0, none⟩))]) (mem' := fun fr1 => [(1, .cells ((fr1 0).x) 28 (kc13))]) (RunsTo.mk [(0, { act := .new .var, key := some 1 })] [1] [1] (fun fr1 => []) (fun fr1 => by kernel_rfl) (fun fr1 => trivial)) ?_
  intro fr1
  refine GS.seq ?_
  refine GS.seq ?_
  refine bnd_elim hm (fun y3 e4 hm => ?_)
  refine GS.region (env' := fun _ => [(1, .pointer (some ⟨(fr1 0).x, 0, none⟩)), (23, .bool false)]) (mem' := fun _ => [(1, .cells ((fr1 0).x) 28 (kc13))]) (RunsTo.mk [(1, { act := .load 1 0 0 [] }), (5, { act := .load 1 0 0 [] }), (6, { act := .call [] (.bool false) }), (10, { act := .load 1 0 0 [] })] [1, 23] [1] (fun _ => [(fr1 0).x = (fr1 0).x, (fr1 0).x = (fr1 0).x, CallOK Tryz.prog 61 #[.agg #[.int .i64 0, .int .i64 0]] (.bool false) [], (fr1 0).x = (fr1 0).x]) (fun _ => by kernel_rfl) (fun _ => ⟨rfl, rfl, (by have h1 := w_pglog_below F  e4; exact h1.ok trivial), rfl, trivial⟩)) ?_
  intro _
  refine GS.cond (t := false) rfl rfl (fun hf => by cases hf) (fun _ => ?_)
  refine GS.skip ?_
  refine GS.seq ?_
  refine GS.region (env' := fun fr5 => [(1, .pointer (some ⟨(fr1 0).x, 0, none⟩)), (3, .pointer (some ⟨(fr5 2).x, 0, none⟩))]) (mem' := fun fr5 => [(1, .cells ((fr1 0).x) 28 (kc13)), (2, .cells ((fr5 2).x) 23 [.int .i64 0, .int .i64 0])]) (RunsTo.mk [(1, { act := .load 1 0 0 [] }), (2, { act := .new .var, key := some 2 }), (3, { act := .store 0 0 [], key := some 2 })] [1, 3] [1, 2] (fun fr5 => [(fr1 0).x = (fr1 0).x, (fr5 2).x = (fr5 2).x, ((.agg #[.int .i64 0, .int .i64 0]) : Value).cells.toList.all Value.oneCell' = true]) (fun fr5 => by kernel_rfl) (fun fr5 => ⟨rfl, rfl, rfl, trivial⟩)) ?_
  intro fr5
  refine GS.seq ?_
  refine GS.seq ?_
  refine GS.region (env' := fun _ => [(1, .pointer (some ⟨(fr1 0).x, 0, none⟩)), (3, .pointer (some ⟨(fr5 2).x, 0, none⟩)), (27, .slice none 0 0), (28, .int .i64 0), (29, .int .i64 0)]) (mem' := fun _ => [(1, .cells ((fr1 0).x) 28 (kc13)), (2, .cells ((fr5 2).x) 23 [.int .i64 0, .int .i64 0])]) (RunsTo.mk [(1, { act := .load 1 0 0 [] })] [1, 3, 27, 28, 29] [1, 2] (fun _ => [(fr1 0).x = (fr1 0).x]) (fun _ => by kernel_rfl) (fun _ => ⟨rfl, trivial⟩)) ?_
  intro _
  refine GS.block ?_
  refine GS.loop ?_
  refine GS.seq ?_
  refine GS.region (env' := fun _ => [(1, .pointer (some ⟨(fr1 0).x, 0, none⟩)), (3, .pointer (some ⟨(fr5 2).x, 0, none⟩)), (27, .slice none 0 0), (28, .int .i64 0), (29, .int .i64 0), (30, .bool false)]) (mem' := fun _ => [(1, .cells ((fr1 0).x) 28 (kc13)), (2, .cells ((fr5 2).x) 23 [.int .i64 0, .int .i64 0])]) (RunsTo.mk [] [1, 3, 27, 28, 29, 30] [1, 2] (fun _ => []) (fun _ => by kernel_rfl) (fun _ => trivial)) ?_
  intro _
  refine GS.seq ?_
  refine GS.cond (t := false) rfl rfl (fun hf => by cases hf) (fun _ => ?_)
  refine GS.exit rfl ?_
  refine GS.seq ?_
  refine GS.seq ?_
  refine bnd_elim hm (fun y9 e10 hm => ?_)
  refine bnd_elim hm (fun y11 e12 hm => ?_)
  refine GS.region (env' := fun _ => [(1, .pointer (some ⟨(fr1 0).x, 0, none⟩)), (3, .pointer (some ⟨(fr5 2).x, 0, none⟩)), (55, .bool false)]) (mem' := fun _ => [(1, .cells ((fr1 0).x) 28 (kc13)), (2, .cells ((fr5 2).x) 23 [.int .i64 0, .int .i64 0])]) (RunsTo.mk [(1, { act := .load 1 0 0 [] }), (2, { act := .call [] (.bool true) }), (6, { act := .load 1 0 0 [] }), (7, { act := .call [] (.bool true) })] [1, 3, 55] [1, 2] (fun _ => [(fr1 0).x = (fr1 0).x, CallOK Tryz.prog 62 #[.slice none 0 0, .func (.func 56) #[] #[]] (.bool true) [], (fr1 0).x = (fr1 0).x, CallOK Tryz.prog 63 #[.slice none 0 0, .func (.func 53) #[] #[]] (.bool true) []]) (fun _ => by kernel_rfl) (fun _ => ⟨rfl, (by have h1 := w_pglog_rising_api_Item_string_ F  e10; exact h1.ok trivial), rfl, (by have h1 := w_pglog_rising_api_Last_int_ F  e12; exact h1.ok trivial), trivial⟩)) ?_
  intro _
  refine GS.cond (t := false) rfl rfl (fun hf => by cases hf) (fun _ => ?_)
  refine GS.skip ?_
  refine GS.seq ?_
  refine GS.seq ?_
  refine GS.region (env' := fun _ => [(1, .pointer (some ⟨(fr1 0).x, 0, none⟩)), (3, .pointer (some ⟨(fr5 2).x, 0, none⟩)), (57, .slice none 0 0), (58, .int .i64 0), (59, .int .i64 0)]) (mem' := fun _ => [(1, .cells ((fr1 0).x) 28 (kc13)), (2, .cells ((fr5 2).x) 23 [.int .i64 0, .int .i64 0])]) (RunsTo.mk [(1, { act := .load 1 0 0 [] })] [1, 3, 57, 58, 59] [1, 2] (fun _ => [(fr1 0).x = (fr1 0).x]) (fun _ => by kernel_rfl) (fun _ => ⟨rfl, trivial⟩)) ?_
  intro _
  refine GS.block ?_
  refine GS.loop ?_
  refine GS.seq ?_
  refine GS.region (env' := fun _ => [(1, .pointer (some ⟨(fr1 0).x, 0, none⟩)), (3, .pointer (some ⟨(fr5 2).x, 0, none⟩)), (57, .slice none 0 0), (58, .int .i64 0), (59, .int .i64 0), (60, .bool false)]) (mem' := fun _ => [(1, .cells ((fr1 0).x) 28 (kc13)), (2, .cells ((fr5 2).x) 23 [.int .i64 0, .int .i64 0])]) (RunsTo.mk [] [1, 3, 57, 58, 59, 60] [1, 2] (fun _ => []) (fun _ => by kernel_rfl) (fun _ => trivial)) ?_
  intro _
  refine GS.seq ?_
  refine GS.cond (t := false) rfl rfl (fun hf => by cases hf) (fun _ => ?_)
  refine GS.exit rfl ?_
  refine GS.seq ?_
  refine GS.seq ?_
  refine GS.region (env' := fun _ => [(3, .pointer (some ⟨(fr5 2).x, 0, none⟩)), (87, .slice none 0 0), (88, .int .i64 0), (89, .int .i64 0)]) (mem' := fun _ => [(2, .cells ((fr5 2).x) 23 [.int .i64 0, .int .i64 0])]) (RunsTo.mk [(1, { act := .load 1 0 0 [] })] [3, 87, 88, 89] [2] (fun _ => [(fr1 0).x = (fr1 0).x]) (fun _ => by kernel_rfl) (fun _ => ⟨rfl, trivial⟩)) ?_
  intro _
  refine GS.block ?_
  refine GS.loop ?_
  refine GS.seq ?_
  refine GS.region (env' := fun _ => [(3, .pointer (some ⟨(fr5 2).x, 0, none⟩)), (87, .slice none 0 0), (88, .int .i64 0), (89, .int .i64 0), (90, .bool false)]) (mem' := fun _ => [(2, .cells ((fr5 2).x) 23 [.int .i64 0, .int .i64 0])]) (RunsTo.mk [] [3, 87, 88, 89, 90] [2] (fun _ => []) (fun _ => by kernel_rfl) (fun _ => trivial)) ?_
  intro _
  refine GS.seq ?_
  refine GS.cond (t := false) rfl rfl (fun hf => by cases hf) (fun _ => ?_)
  refine GS.exit rfl ?_
  refine GS.seq ?_
  refine GS.region (env' := fun _ => [(2, .int .i64 0)]) (mem' := fun _ => []) (RunsTo.mk [] [2] [] (fun _ => []) (fun _ => by kernel_rfl) (fun _ => trivial)) ?_
  intro _
  have hy := Option.some.inj hm
  subst hy
  refine GS.ret (fn := Tryz.f41) [0] [.int .i64 0] [] rfl Tryz.func41 (by kernel_rfl) trivial (fun w' hs => ?_)
  exact ⟨(), rfl, hs.turnedG (ks := []) rfl rfl⟩

theorem w_pglog_Copy_2 (F : Nat) {y : Unit} (hm : m_pglog_Copy_2 F = some y) : CallG Tryz.prog 32 #[.agg ((kc13)).toArray] (X := Option Addr × Nat × Option Addr × Nat × Option Addr × Nat) (fun ⟨x0, x1, x2, x3, x4, x5⟩ => .agg ((kc16 x0 x1 x2 x3 x4 x5)).toArray) [] [] (fun ⟨x0, x1, x2, x3, x4, x5⟩ => [.osl x0 x1 31 7 [], .osl x2 x3 94 5 [], .osl x4 x5 91 4 []]) := by
  intro w hg
  rw [m_pglog_Copy_2] at hm
  refine GS.start (S := mayT [] []) (mem := []) Tryz.func32 rfl Tryz.ntmps32 (Nat.le_of_ble_eq_true rfl) (hg.start rfl) ?_
  refine GS.conv (env' := [(0, .agg ((kc13)).toArray)]) rfl rfl ?_
  refine GS.seq ?_
  refine GS.region (env' := fun fr1 => [(1, .pointer (some ⟨(fr1 0).x, 0, none⟩)), (2, .pointer (some ⟨(fr1 1).x, 0, none⟩))]) (mem' := fun fr1 => [(1, .cells ((fr1 0).x) 28 (kc13)), (2, .cells ((fr1 1).x) 28 (kc8))]) (RunsTo.mk [(0, { act := .new .var, key := some 1 }), (1, { act := .new .var, key := some 2 })] [1, 2] [1, 2] (fun fr1 => []) (fun fr1 => by kernel_rfl) (fun fr1 => trivial)) ?_
  intro fr1
  refine GS.seq ?_
  refine GS.region (env' := fun fr2 => [(1, .pointer (some ⟨(fr1 0).x, 0, none⟩)), (2, .pointer (some ⟨(fr1 1).x, 0, none⟩))]) (mem' := fun fr2 => [(1, .cells ((fr1 0).x) 28 (kc14 ((fr2 2).ob) ((fr2 2).cap))), (2, .cells ((fr1 1).x) 28 (kc8)), (3, .osl ((fr2 2).ob) ((fr2 2).cap) 31 7 ([] : List (List Value)))]) (RunsTo.mk [(1, { act := .load 1 0 0 [] }), (2, { act := .app none, key := some 3, spf := some (fun f => .slice (f.ob) 0 (f.cap)) }), (4, { act := .store 0 0 [], key := some 1 })] [1, 2] [1, 2, 3] (fun fr2 => [(fr1 0).x = (fr1 0).x, (none : Option Addr) = none, 0 = 0, 0 = 0, 0 = 0, ([] : List (List Value)).length * (64 + 1) ≤ 70368744177664, ((.slice ((fr2 2).ob) (0 + ([] : List (List Value)).length) ((fr2 2).cap)) : Value) = .slice ((fr2 2).ob) 0 ((fr2 2).cap), (fr1 0).x = (fr1 0).x, ((.slice ((fr2 2).ob) 0 ((fr2 2).cap)) : Value).cells.toList.all Value.oneCell' = true]) (fun fr2 => by kernel_rfl) (fun fr2 => ⟨rfl, rfl, rfl, rfl, rfl, (show 0 * (64 + 1) ≤ 70368744177664 by decide), rfl, rfl, rfl, trivial⟩)) ?_
  intro fr2
  refine GS.conv (mem' := [(1, .cells ((fr1 0).x) 28 (kc14 ((fr2 2).ob) ((fr2 2).cap))), (2, .cells ((fr1 1).x) 28 (kc8)), (3, .osl ((fr2 2).ob) ((fr2 2).cap) 31 7 [])]) rfl (congrArg (fun rr : List (List Value) => ([(1, .cells ((fr1 0).x) 28 (kc14 ((fr2 2).ob) ((fr2 2).cap))), (2, .cells ((fr1 1).x) 28 (kc8)), (3, .osl ((fr2 2).ob) ((fr2 2).cap) 31 7 rr)] : List (Nat × Ent))) (show ([] : List (List Value)) = ([] : List (List Value)) from rfl)) ?_
  refine GS.seq ?_
  refine GS.region (env' := fun fr3 => [(1, .pointer (some ⟨(fr1 0).x, 0, none⟩)), (2, .pointer (some ⟨(fr1 1).x, 0, none⟩))]) (mem' := fun fr3 => [(1, .cells ((fr1 0).x) 28 (kc15 ((fr2 2).ob) ((fr2 2).cap) ((fr3 2).ob) ((fr3 2).cap))), (2, .cells ((fr1 1).x) 28 (kc8)), (3, .osl ((fr2 2).ob) ((fr2 2).cap) 31 7 []), (4, .osl ((fr3 2).ob) ((fr3 2).cap) 94 5 ([] : List (List Value)))]) (RunsTo.mk [(1, { act := .load 1 0 0 [] }), (2, { act := .app none, key := some 4, spf := some (fun f => .slice (f.ob) 0 (f.cap)) }), (4, { act := .store 0 0 [], key := some 1 })] [1, 2] [1, 2, 3, 4] (fun fr3 => [(fr1 0).x = (fr1 0).x, (none : Option Addr) = none, 0 = 0, 0 = 0, 0 = 0, ([] : List (List Value)).length * (40 + 1) ≤ 70368744177664, ((.slice ((fr3 2).ob) (0 + ([] : List (List Value)).length) ((fr3 2).cap)) : Value) = .slice ((fr3 2).ob) 0 ((fr3 2).cap), (fr1 0).x = (fr1 0).x, ((.slice ((fr3 2).ob) 0 ((fr3 2).cap)) : Value).cells.toList.all Value.oneCell' = true]) (fun fr3 => by kernel_rfl) (fun fr3 => ⟨rfl, rfl, rfl, rfl, rfl, (show 0 * (40 + 1) ≤ 70368744177664 by decide), rfl, rfl, rfl, trivial⟩)) ?_
  intro fr3
  refine GS.conv (mem' := [(1, .cells ((fr1 0).x) 28 (kc15 ((fr2 2).ob) ((fr2 2).cap) ((fr3 2).ob) ((fr3 2).cap))), (2, .cells ((fr1 1).x) 28 (kc8)), (3, .osl ((fr2 2).ob) ((fr2 2).cap) 31 7 []), (4, .osl ((fr3 2).ob) ((fr3 2).cap) 94 5 [])]) rfl (congrArg (fun rr : List (List Value) => ([(1, .cells ((fr1 0).x) 28 (kc15 ((fr2 2).ob) ((fr2 2).cap) ((fr3 2).ob) ((fr3 2).cap))), (2, .cells ((fr1 1).x) 28 (kc8)), (3, .osl ((fr2 2).ob) ((fr2 2).cap) 31 7 []), (4, .osl ((fr3 2).ob) ((fr3 2).cap) 94 5 rr)] : List (Nat × Ent))) (show ([] : List (List Value)) = ([] : List (List Value)) from rfl)) ?_
  refine GS.seq ?_
  refine GS.region (env' := fun fr4 => [(1, .pointer (some ⟨(fr1 0).x, 0, none⟩)), (2, .pointer (some ⟨(fr1 1).x, 0, none⟩))]) (mem' := fun fr4 => [(1, .cells ((fr1 0).x) 28 (kc16 ((fr2 2).ob) ((fr2 2).cap) ((fr3 2).ob) ((fr3 2).cap) ((fr4 2).ob) ((fr4 2).cap))), (2, .cells ((fr1 1).x) 28 (kc8)), (3, .osl ((fr2 2).ob) ((fr2 2).cap) 31 7 []), (4, .osl ((fr3 2).ob) ((fr3 2).cap) 94 5 []), (5, .osl ((fr4 2).ob) ((fr4 2).cap) 91 4 ([] : List (List Value)))]) (RunsTo.mk [(1, { act := .load 1 0 0 [] }), (2, { act := .app none, key := some 5, spf := some (fun f => .slice (f.ob) 0 (f.cap)) }), (4, { act := .store 0 0 [], key := some 1 })] [1, 2] [1, 2, 3, 4, 5] (fun fr4 => [(fr1 0).x = (fr1 0).x, (none : Option Addr) = none, 0 = 0, 0 = 0, 0 = 0, ([] : List (List Value)).length * (40 + 1) ≤ 70368744177664, ((.slice ((fr4 2).ob) (0 + ([] : List (List Value)).length) ((fr4 2).cap)) : Value) = .slice ((fr4 2).ob) 0 ((fr4 2).cap), (fr1 0).x = (fr1 0).x, ((.slice ((fr4 2).ob) 0 ((fr4 2).cap)) : Value).cells.toList.all Value.oneCell' = true]) (fun fr4 => by kernel_rfl) (fun fr4 => ⟨rfl, rfl, rfl, rfl, rfl, (show 0 * (40 + 1) ≤ 70368744177664 by decide), rfl, rfl, rfl, trivial⟩)) ?_
  intro fr4
  refine GS.conv (mem' := [(1, .cells ((fr1 0).x) 28 (kc16 ((fr2 2).ob) ((fr2 2).cap) ((fr3 2).ob) ((fr3 2).cap) ((fr4 2).ob) ((fr4 2).cap))), (2, .cells ((fr1 1).x) 28 (kc8)), (3, .osl ((fr2 2).ob) ((fr2 2).cap) 31 7 []), (4, .osl ((fr3 2).ob) ((fr3 2).cap) 94 5 []), (5, .osl ((fr4 2).ob) ((fr4 2).cap) 91 4 [])]) rfl (congrArg (fun rr : List (List Value) => ([(1, .cells ((fr1 0).x) 28 (kc16 ((fr2 2).ob) ((fr2 2).cap) ((fr3 2).ob) ((fr3 2).cap) ((fr4 2).ob) ((fr4 2).cap))), (2, .cells ((fr1 1).x) 28 (kc8)), (3, .osl ((fr2 2).ob) ((fr2 2).cap) 31 7 []), (4, .osl ((fr3 2).ob) ((fr3 2).cap) 94 5 []), (5, .osl ((fr4 2).ob) ((fr4 2).cap) 91 4 rr)] : List (Nat × Ent))) (show ([] : List (List Value)) = ([] : List (List Value)) from rfl)) ?_
  refine GS.seq ?_
  refine GS.region (env' := fun _ => [(2, .pointer (some ⟨(fr1 1).x, 0, none⟩))]) (mem' := fun _ => [(2, .cells ((fr1 1).x) 28 (kc16 ((fr2 2).ob) ((fr2 2).cap) ((fr3 2).ob) ((fr3 2).cap) ((fr4 2).ob) ((fr4 2).cap))), (3, .osl ((fr2 2).ob) ((fr2 2).cap) 31 7 []), (4, .osl ((fr3 2).ob) ((fr3 2).cap) 94 5 []), (5, .osl ((fr4 2).ob) ((fr4 2).cap) 91 4 [])]) (RunsTo.mk [(0, { act := .load 1 0 0 [] }), (1, { act := .store 0 0 [], key := some 2 })] [2] [2, 3, 4, 5] (fun _ => [(fr1 0).x = (fr1 0).x, (fr1 1).x = (fr1 1).x, ((.agg ((kc16 ((fr2 2).ob) ((fr2 2).cap) ((fr3 2).ob) ((fr3 2).cap) ((fr4 2).ob) ((fr4 2).cap))).toArray) : Value).cells.toList.all Value.oneCell' = true]) (fun _ => by kernel_rfl) (fun _ => ⟨rfl, rfl, rfl, trivial⟩)) ?_
  intro _
  have hy := Option.some.inj hm
  subst hy
  refine GS.ret (fn := Tryz.f32) [2] [.agg ((kc16 ((fr2 2).ob) ((fr2 2).cap) ((fr3 2).ob) ((fr3 2).cap) ((fr4 2).ob) ((fr4 2).cap))).toArray] [(fr1 1).x = (fr1 1).x] rfl Tryz.func32 (by kernel_rfl) ⟨rfl, trivial⟩ (fun w' hs => ?_)
  exact ⟨⟨(fr2 2).ob, (fr2 2).cap, (fr3 2).ob, (fr3 2).cap, (fr4 2).ob, (fr4 2).cap⟩, rfl, hs.turnedG (ks := [3, 4, 5]) rfl rfl⟩

theorem w_primary_New (F : Nat) (a4_o : Option Addr) (a4_c : Nat) {y : Unit} (hm : m_primary_New F = some y) : CallG Tryz.prog 15 #[.agg #[.int .i64 1, .int .i64 0], .int .i64 3, .int .i64 0, .int .i64 9, .slice a4_o 2 a4_c, .agg ((kc13)).toArray] (X := Nat × Option Addr × Nat × Option Addr × Nat × Option Addr × Nat × Option Addr × Nat) (fun ⟨x0, x1, x2, x3, x4, x5, x6, x7, x8⟩ => .tuple #[.pointer (some ⟨x0, 0, none⟩), .int .i64 0]) [] [.rd a4_o 1 [[.int .i64 0], [.int .i64 1]]] (fun ⟨x0, x1, x2, x3, x4, x5, x6, x7, x8⟩ => [.cells x0 80 (kc17 x1 x2 x3 x4 x5 x6 x7 x8), .osl x1 x2 3 1 [[.int .i64 1]], .osl x3 x4 31 7 [], .osl x5 x6 94 5 [], .osl x7 x8 91 4 []]) := by
  intro w hg
  rw [m_primary_New] at hm
  refine GS.start (S := mayT [] [.rd a4_o 1 [[.int .i64 0], [.int .i64 1]]]) (mem := [(1, .rd a4_o 1 [[.int .i64 0], [.int .i64 1]])]) Tryz.func15 rfl Tryz.ntmps15 (Nat.le_of_ble_eq_true rfl) (hg.start rfl) ?_
  refine GS.conv (env' := [(0, .agg #[.int .i64 1, .int .i64 0]), (1, .int .i64 3), (2, .int .i64 0), (3, .int .i64 9), (4, .slice a4_o 2 a4_c), (5, .agg ((kc13)).toArray)]) rfl rfl ?_
  refine GS.seq ?_
  refine GS.region (env' := fun fr1 => [(1, .int .i64 3), (2, .int .i64 0), (3, .int .i64 9), (4, .slice a4_o 2 a4_c), (6, .pointer (some ⟨(fr1 0).x, 0, none⟩)), (11, .pointer (some ⟨(fr1 1).x, 0, none⟩))]) (mem' := fun fr1 => [(1, .rd a4_o 1 [[.int .i64 0], [.int .i64 1]]), (2, .cells ((fr1 0).x) 51 [.int .i64 1, .int .i64 0]), (3, .cells ((fr1 1).x) 28 (kc13))]) (RunsTo.mk [(0, { act := .new .var, key := some 2 }), (1, { act := .new .var, key := some 3 })] [1, 2, 3, 4, 6, 11] [1, 2, 3] (fun fr1 => []) (fun fr1 => by kernel_rfl) (fun fr1 => trivial)) ?_
  intro fr1
  refine GS.seq ?_
  refine GS.seq ?_
  refine bnd_elim hm (fun y3 e4 hm => ?_)
  refine bnd_elim hm (fun y5 e6 hm => ?_)
  refine GS.region (env' := fun _ => [(1, .int .i64 3), (2, .int .i64 0), (3, .int .i64 9), (4, .slice a4_o 2 a4_c), (6, .pointer (some ⟨(fr1 0).x, 0, none⟩)), (11, .pointer (some ⟨(fr1 1).x, 0, none⟩)), (25, .bool false)]) (mem' := fun _ => [(1, .rd a4_o 1 [[.int .i64 0], [.int .i64 1]]), (2, .cells ((fr1 0).x) 51 [.int .i64 1, .int .i64 0]), (3, .cells ((fr1 1).x) 28 (kc13))]) (RunsTo.mk [(2, { act := .call [1] (.bool true) }), (5, { act := .load 3 0 0 [] }), (6, { act := .call [] (.int .i64 0) })] [1, 2, 3, 4, 6, 11, 25] [1, 2, 3] (fun _ => [CallOK Tryz.prog 40 #[.slice a4_o 2 a4_c, .int .i64 0] (.bool true) [some (.rd a4_o 1 [[.int .i64 0], [.int .i64 1]])], (fr1 1).x = (fr1 1).x, CallOK Tryz.prog 41 #[.agg ((kc13)).toArray] (.int .i64 0) []]) (fun _ => by kernel_rfl) (fun _ => ⟨(by have h1 := w_slices_Contains___int_int_ F a4_o a4_c e4; exact h1.ok ⟨(.inl ⟨.rd a4_o 1 [[.int .i64 0], [.int .i64 1]], .head _, Cov.refl _⟩), trivial⟩), rfl, (by have h1 := w_pglog_Check F  e6; exact h1.ok trivial), trivial⟩)) ?_
  intro _
  refine GS.cond (t := false) rfl rfl (fun hf => by cases hf) (fun _ => ?_)
  refine GS.skip ?_
  refine GS.seq ?_
  refine GS.region (env' := fun _ => [(1, .int .i64 3), (2, .int .i64 0), (3, .int .i64 9), (4, .slice a4_o 2 a4_c), (6, .pointer (some ⟨(fr1 0).x, 0, none⟩)), (11, .pointer (some ⟨(fr1 1).x, 0, none⟩)), (14, .slice none 0 0)]) (mem' := fun _ => [(1, .rd a4_o 1 [[.int .i64 0], [.int .i64 1]]), (2, .cells ((fr1 0).x) 51 [.int .i64 1, .int .i64 0]), (3, .cells ((fr1 1).x) 28 (kc13))]) (RunsTo.mk [] [1, 2, 3, 4, 6, 11, 14] [1, 2, 3] (fun _ => []) (fun _ => by kernel_rfl) (fun _ => trivial)) ?_
  intro _
  refine GS.seq ?_
  refine GS.seq ?_
  refine GS.region (env' := fun _ => [(1, .int .i64 3), (2, .int .i64 0), (3, .int .i64 9), (6, .pointer (some ⟨(fr1 0).x, 0, none⟩)), (11, .pointer (some ⟨(fr1 1).x, 0, none⟩)), (14, .slice none 0 0), (26, .slice a4_o 2 a4_c), (27, .int .i64 2), (28, .int .i64 0)]) (mem' := fun _ => [(1, .rd a4_o 1 [[.int .i64 0], [.int .i64 1]]), (2, .cells ((fr1 0).x) 51 [.int .i64 1, .int .i64 0]), (3, .cells ((fr1 1).x) 28 (kc13))]) (RunsTo.mk [] [1, 2, 3, 6, 11, 14, 26, 27, 28] [1, 2, 3] (fun _ => []) (fun _ => by kernel_rfl) (fun _ => trivial)) ?_
  intro _
  refine GS.block ?_
  refine GS.loop ?_
  refine GS.seq ?_
  refine GS.region (env' := fun _ => [(1, .int .i64 3), (2, .int .i64 0), (3, .int .i64 9), (6, .pointer (some ⟨(fr1 0).x, 0, none⟩)), (11, .pointer (some ⟨(fr1 1).x, 0, none⟩)), (14, .slice none 0 0), (26, .slice a4_o 2 a4_c), (27, .int .i64 2), (28, .int .i64 0), (29, .bool true)]) (mem' := fun _ => [(1, .rd a4_o 1 [[.int .i64 0], [.int .i64 1]]), (2, .cells ((fr1 0).x) 51 [.int .i64 1, .int .i64 0]), (3, .cells ((fr1 1).x) 28 (kc13))]) (RunsTo.mk [] [1, 2, 3, 6, 11, 14, 26, 27, 28, 29] [1, 2, 3] (fun _ => []) (fun _ => by kernel_rfl) (fun _ => trivial)) ?_
  intro _
  refine GS.seq ?_
  refine GS.cond (t := true) rfl rfl (fun _ => ?_) (fun hf => by cases hf)
  refine GS.skip ?_
  refine GS.seq ?_
  refine GS.block ?_
  refine GS.seq ?_
  refine GS.region (env' := fun _ => [(1, .int .i64 3), (2, .int .i64 0), (3, .int .i64 9), (6, .pointer (some ⟨(fr1 0).x, 0, none⟩)), (11, .pointer (some ⟨(fr1 1).x, 0, none⟩)), (14, .slice none 0 0), (16, .int .i64 0), (26, .slice a4_o 2 a4_c), (27, .int .i64 2), (28, .int .i64 0)]) (mem' := fun _ => [(1, .rd a4_o 1 [[.int .i64 0], [.int .i64 1]]), (2, .cells ((fr1 0).x) 51 [.int .i64 1, .int .i64 0]), (3, .cells ((fr1 1).x) 28 (kc13))]) (RunsTo.mk [(0, { act := .idx 1 0 }), (1, { act := .load 1 0 0 [.int .i64 0] })] [1, 2, 3, 6, 11, 14, 16, 26, 27, 28] [1, 2, 3] (fun _ => [a4_o = a4_o, 2 = ([[.int .i64 0], [.int .i64 1]] : List (List Value)).length, (0 : Int) = ((0 : Nat) : Int), 0 < 2, blk a4_o = blk a4_o, offs a4_o + 0 * 1 = offs a4_o + (0 * 1 + 0), ([[.int .i64 0], [.int .i64 1]] : List (List Value))[0]? = some [.int .i64 0]]) (fun _ => by kernel_rfl) (fun _ => ⟨rfl, rfl, rfl, (Nat.le_of_ble_eq_true rfl), rfl, rfl, rfl, trivial⟩)) ?_
  intro _
  refine GS.seq ?_
  refine GS.region (env' := fun _ => [(1, .int .i64 3), (2, .int .i64 0), (3, .int .i64 9), (6, .pointer (some ⟨(fr1 0).x, 0, none⟩)), (11, .pointer (some ⟨(fr1 1).x, 0, none⟩)), (14, .slice none 0 0), (16, .int .i64 0), (26, .slice a4_o 2 a4_c), (27, .int .i64 2), (28, .int .i64 0), (34, .bool false)]) (mem' := fun _ => [(1, .rd a4_o 1 [[.int .i64 0], [.int .i64 1]]), (2, .cells ((fr1 0).x) 51 [.int .i64 1, .int .i64 0]), (3, .cells ((fr1 1).x) 28 (kc13))]) (RunsTo.mk [] [1, 2, 3, 6, 11, 14, 16, 26, 27, 28, 34] [1, 2, 3] (fun _ => []) (fun _ => by kernel_rfl) (fun _ => trivial)) ?_
  intro _
  refine GS.cond (t := false) rfl rfl (fun hf => by cases hf) (fun _ => ?_)
  refine GS.skip ?_
  refine GS.inBlock ?_
  refine GS.region (env' := fun _ => [(1, .int .i64 3), (2, .int .i64 0), (3, .int .i64 9), (6, .pointer (some ⟨(fr1 0).x, 0, none⟩)), (11, .pointer (some ⟨(fr1 1).x, 0, none⟩)), (14, .slice none 0 0), (26, .slice a4_o 2 a4_c), (27, .int .i64 2), (28, .int .i64 1)]) (mem' := fun _ => [(1, .rd a4_o 1 [[.int .i64 0], [.int .i64 1]]), (2, .cells ((fr1 0).x) 51 [.int .i64 1, .int .i64 0]), (3, .cells ((fr1 1).x) 28 (kc13))]) (RunsTo.mk [] [1, 2, 3, 6, 11, 14, 26, 27, 28] [1, 2, 3] (fun _ => []) (fun _ => by kernel_rfl) (fun _ => trivial)) ?_
  intro _
  refine GS.inLoop ?_
  refine GS.seq ?_
  refine GS.region (env' := fun _ => [(1, .int .i64 3), (2, .int .i64 0), (3, .int .i64 9), (6, .pointer (some ⟨(fr1 0).x, 0, none⟩)), (11, .pointer (some ⟨(fr1 1).x, 0, none⟩)), (14, .slice none 0 0), (26, .slice a4_o 2 a4_c), (27, .int .i64 2), (28, .int .i64 1), (29, .bool true)]) (mem' := fun _ => [(1, .rd a4_o 1 [[.int .i64 0], [.int .i64 1]]), (2, .cells ((fr1 0).x) 51 [.int .i64 1, .int .i64 0]), (3, .cells ((fr1 1).x) 28 (kc13))]) (RunsTo.mk [] [1, 2, 3, 6, 11, 14, 26, 27, 28, 29] [1, 2, 3] (fun _ => []) (fun _ => by kernel_rfl) (fun _ => trivial)) ?_
  intro _
  refine GS.seq ?_
  refine GS.cond (t := true) rfl rfl (fun _ => ?_) (fun hf => by cases hf)
  refine GS.skip ?_
  refine GS.seq ?_
  refine GS.block ?_
  refine GS.seq ?_
  refine GS.region (env' := fun _ => [(1, .int .i64 3), (2, .int .i64 0), (3, .int .i64 9), (6, .pointer (some ⟨(fr1 0).x, 0, none⟩)), (11, .pointer (some ⟨(fr1 1).x, 0, none⟩)), (14, .slice none 0 0), (16, .int .i64 1), (26, .slice a4_o 2 a4_c), (27, .int .i64 2), (28, .int .i64 1)]) (mem' := fun _ => [(1, .rd a4_o 1 [[.int .i64 0], [.int .i64 1]]), (2, .cells ((fr1 0).x) 51 [.int .i64 1, .int .i64 0]), (3, .cells ((fr1 1).x) 28 (kc13))]) (RunsTo.mk [(0, { act := .idx 1 1 }), (1, { act := .load 1 1 0 [.int .i64 1] })] [1, 2, 3, 6, 11, 14, 16, 26, 27, 28] [1, 2, 3] (fun _ => [a4_o = a4_o, 2 = ([[.int .i64 0], [.int .i64 1]] : List (List Value)).length, (1 : Int) = ((1 : Nat) : Int), 1 < 2, blk a4_o = blk a4_o, offs a4_o + 1 * 1 = offs a4_o + (1 * 1 + 0), ([[.int .i64 0], [.int .i64 1]] : List (List Value))[1]? = some [.int .i64 1]]) (fun _ => by kernel_rfl) (fun _ => ⟨rfl, rfl, rfl, (Nat.le_of_ble_eq_true rfl), rfl, rfl, rfl, trivial⟩)) ?_
  intro _
  refine GS.seq ?_
  refine GS.region (env' := fun _ => [(1, .int .i64 3), (2, .int .i64 0), (3, .int .i64 9), (6, .pointer (some ⟨(fr1 0).x, 0, none⟩)), (11, .pointer (some ⟨(fr1 1).x, 0, none⟩)), (14, .slice none 0 0), (16, .int .i64 1), (26, .slice a4_o 2 a4_c), (27, .int .i64 2), (28, .int .i64 1), (34, .bool true)]) (mem' := fun _ => [(1, .rd a4_o 1 [[.int .i64 0], [.int .i64 1]]), (2, .cells ((fr1 0).x) 51 [.int .i64 1, .int .i64 0]), (3, .cells ((fr1 1).x) 28 (kc13))]) (RunsTo.mk [] [1, 2, 3, 6, 11, 14, 16, 26, 27, 28, 34] [1, 2, 3] (fun _ => []) (fun _ => by kernel_rfl) (fun _ => trivial)) ?_
  intro _
  refine GS.cond (t := true) rfl rfl (fun _ => ?_) (fun hf => by cases hf)
  refine GS.region (env' := fun fr16 => [(1, .int .i64 3), (2, .int .i64 0), (3, .int .i64 9), (6, .pointer (some ⟨(fr1 0).x, 0, none⟩)), (11, .pointer (some ⟨(fr1 1).x, 0, none⟩)), (14, .slice ((fr16 3).ob) 1 ((fr16 3).cap)), (26, .slice a4_o 2 a4_c), (27, .int .i64 2), (28, .int .i64 1)]) (mem' := fun fr16 => [(1, .rd a4_o 1 [[.int .i64 0], [.int .i64 1]]), (2, .cells ((fr1 0).x) 51 [.int .i64 1, .int .i64 0]), (3, .cells ((fr1 1).x) 28 (kc13)), (5, .osl ((fr16 3).ob) ((fr16 3).cap) 3 1 ([[.int .i64 1]] : List (List Value)))]) (RunsTo.mk [(2, { act := .new (.row 1 1), key := some 4 }), (3, { act := .app (some 4), key := some 5, spf := some (fun f => .slice (f.ob) 1 (f.cap)) })] [1, 2, 3, 6, 11, 14, 26, 27, 28] [1, 2, 3, 5] (fun fr16 => [(some (Addr.mk (fr16 2).x 0 none)) = (some (Addr.mk (fr16 2).x 0 none)), 1 = ([[.int .i64 1]] : List (List Value)).length, 0 = 0, 0 = 0, ([[.int .i64 1]] : List (List Value)).length * (8 + 1) ≤ 70368744177664, ((.slice ((fr16 3).ob) (0 + ([[.int .i64 1]] : List (List Value)).length) ((fr16 3).cap)) : Value) = .slice ((fr16 3).ob) 1 ((fr16 3).cap)]) (fun fr16 => by kernel_rfl) (fun fr16 => ⟨rfl, rfl, rfl, rfl, (show 1 * (8 + 1) ≤ 70368744177664 by decide), rfl, trivial⟩)) ?_
  intro fr16
  refine GS.conv (mem' := [(1, .rd a4_o 1 [[.int .i64 0], [.int .i64 1]]), (2, .cells ((fr1 0).x) 51 [.int .i64 1, .int .i64 0]), (3, .cells ((fr1 1).x) 28 (kc13)), (5, .osl ((fr16 3).ob) ((fr16 3).cap) 3 1 [[.int .i64 1]])]) rfl (congrArg (fun rr : List (List Value) => ([(1, .rd a4_o 1 [[.int .i64 0], [.int .i64 1]]), (2, .cells ((fr1 0).x) 51 [.int .i64 1, .int .i64 0]), (3, .cells ((fr1 1).x) 28 (kc13)), (5, .osl ((fr16 3).ob) ((fr16 3).cap) 3 1 rr)] : List (Nat × Ent))) (show ([[.int .i64 1]] : List (List Value)) = ([[.int .i64 1]] : List (List Value)) from rfl)) ?_
  refine GS.inBlock ?_
  refine GS.region (env' := fun _ => [(1, .int .i64 3), (2, .int .i64 0), (3, .int .i64 9), (6, .pointer (some ⟨(fr1 0).x, 0, none⟩)), (11, .pointer (some ⟨(fr1 1).x, 0, none⟩)), (14, .slice ((fr16 3).ob) 1 ((fr16 3).cap)), (26, .slice a4_o 2 a4_c), (27, .int .i64 2), (28, .int .i64 2)]) (mem' := fun _ => [(1, .rd a4_o 1 [[.int .i64 0], [.int .i64 1]]), (2, .cells ((fr1 0).x) 51 [.int .i64 1, .int .i64 0]), (3, .cells ((fr1 1).x) 28 (kc13)), (5, .osl ((fr16 3).ob) ((fr16 3).cap) 3 1 [[.int .i64 1]])]) (RunsTo.mk [] [1, 2, 3, 6, 11, 14, 26, 27, 28] [1, 2, 3, 5] (fun _ => []) (fun _ => by kernel_rfl) (fun _ => trivial)) ?_
  intro _
  refine GS.inLoop ?_
  refine GS.seq ?_
  refine GS.region (env' := fun _ => [(1, .int .i64 3), (2, .int .i64 0), (3, .int .i64 9), (6, .pointer (some ⟨(fr1 0).x, 0, none⟩)), (11, .pointer (some ⟨(fr1 1).x, 0, none⟩)), (14, .slice ((fr16 3).ob) 1 ((fr16 3).cap)), (26, .slice a4_o 2 a4_c), (27, .int .i64 2), (28, .int .i64 2), (29, .bool false)]) (mem' := fun _ => [(1, .rd a4_o 1 [[.int .i64 0], [.int .i64 1]]), (2, .cells ((fr1 0).x) 51 [.int .i64 1, .int .i64 0]), (3, .cells ((fr1 1).x) 28 (kc13)), (5, .osl ((fr16 3).ob) ((fr16 3).cap) 3 1 [[.int .i64 1]])]) (RunsTo.mk [] [1, 2, 3, 6, 11, 14, 26, 27, 28, 29] [1, 2, 3, 5] (fun _ => []) (fun _ => by kernel_rfl) (fun _ => trivial)) ?_
  intro _
  refine GS.seq ?_
  refine GS.cond (t := false) rfl rfl (fun hf => by cases hf) (fun _ => ?_)
  refine GS.exit rfl ?_
  refine GS.seq ?_
  refine bnd_elim hm (fun y20 e21 hm => ?_)
  refine GS.region (env' := fun fr19 => [(12, .pointer (some ⟨(fr19 8).x, 0, none⟩)), (13, .int .i64 0)]) (mem' := fun fr19 => [(5, .osl ((fr16 3).ob) ((fr16 3).cap) 3 1 [[.int .i64 1]]), (9, bag [.osl (((fr19 6).xs.getD 0 (none, 0)).1) (((fr19 6).xs.getD 1 (none, 0)).2) 31 7 [], .osl (((fr19 6).xs.getD 2 (none, 0)).1) (((fr19 6).xs.getD 3 (none, 0)).2) 94 5 [], .osl (((fr19 6).xs.getD 4 (none, 0)).1) (((fr19 6).xs.getD 5 (none, 0)).2) 91 4 []]), (10, .cells ((fr19 8).x) 80 (kc17 ((fr16 3).ob) ((fr16 3).cap) (((fr19 6).xs.getD 0 (none, 0)).1) (((fr19 6).xs.getD 1 (none, 0)).2) (((fr19 6).xs.getD 2 (none, 0)).1) (((fr19 6).xs.getD 3 (none, 0)).2) (((fr19 6).xs.getD 4 (none, 0)).1) (((fr19 6).xs.getD 5 (none, 0)).2)))]) (RunsTo.mkd [(0, { act := .load 2 0 0 [] }), (5, { act := .load 3 0 0 [] }), (6, { act := .calln [] (fun f => .agg ((kc16 (f.xs.getD 0 (none, 0)).1 (f.xs.getD 1 (none, 0)).2 (f.xs.getD 2 (none, 0)).1 (f.xs.getD 3 (none, 0)).2 (f.xs.getD 4 (none, 0)).1 (f.xs.getD 5 (none, 0)).2)).toArray) (fun f => bag [.osl (f.xs.getD 0 (none, 0)).1 (f.xs.getD 1 (none, 0)).2 31 7 [], .osl (f.xs.getD 2 (none, 0)).1 (f.xs.getD 3 (none, 0)).2 94 5 [], .osl (f.xs.getD 4 (none, 0)).1 (f.xs.getD 5 (none, 0)).2 91 4 []]), key := some 9 }), (8, { act := .new .var, key := some 10 })] [12, 13] [5, 9, 10] (fun fr19 => [(fr1 0).x = (fr1 0).x, (fr1 1).x = (fr1 1).x, CallN Tryz.prog 32 #[.agg ((kc13)).toArray] (fun f => .agg ((kc16 (f.xs.getD 0 (none, 0)).1 (f.xs.getD 1 (none, 0)).2 (f.xs.getD 2 (none, 0)).1 (f.xs.getD 3 (none, 0)).2 (f.xs.getD 4 (none, 0)).1 (f.xs.getD 5 (none, 0)).2)).toArray) (fun f => bag [.osl (f.xs.getD 0 (none, 0)).1 (f.xs.getD 1 (none, 0)).2 31 7 [], .osl (f.xs.getD 2 (none, 0)).1 (f.xs.getD 3 (none, 0)).2 94 5 [], .osl (f.xs.getD 4 (none, 0)).1 (f.xs.getD 5 (none, 0)).2 91 4 []]) []]) (by kernel_rfl) (by kernel_rfl) (fun fr19 => by kernel_rfl) (fun fr19 => ⟨rfl, rfl, (by have h1 := w_pglog_Copy_2 F  e21; exact CallG.toNB (efs := fun f => [.osl (f.xs.getD 0 (none, 0)).1 (f.xs.getD 1 (none, 0)).2 31 7 [], .osl (f.xs.getD 2 (none, 0)).1 (f.xs.getD 3 (none, 0)).2 94 5 [], .osl (f.xs.getD 4 (none, 0)).1 (f.xs.getD 5 (none, 0)).2 91 4 []]) h1 trivial (fun x => ⟨0, none, 0, [(x.1, 0), (none, x.2.1), (x.2.2.1, 0), (none, x.2.2.2.1), (x.2.2.2.2.1, 0), (none, x.2.2.2.2.2)], fun _ _ => (none, 0)⟩) (fun _ => rfl) (fun _ => rfl) (fun _ => rfl)), trivial⟩)) ?_
  intro fr19
  refine GS.setMem (mem' := [(5, .osl ((fr16 3).ob) ((fr16 3).cap) 3 1 [[.int .i64 1]]), (10, .cells ((fr19 8).x) 80 (kc17 ((fr16 3).ob) ((fr16 3).cap) (((fr19 6).xs.getD 0 (none, 0)).1) (((fr19 6).xs.getD 1 (none, 0)).2) (((fr19 6).xs.getD 2 (none, 0)).1) (((fr19 6).xs.getD 3 (none, 0)).2) (((fr19 6).xs.getD 4 (none, 0)).1) (((fr19 6).xs.getD 5 (none, 0)).2))), (11, .osl (((fr19 6).xs.getD 0 (none, 0)).1) (((fr19 6).xs.getD 1 (none, 0)).2) 31 7 []), (12, .osl (((fr19 6).xs.getD 2 (none, 0)).1) (((fr19 6).xs.getD 3 (none, 0)).2) 94 5 []), (13, .osl (((fr19 6).xs.getD 4 (none, 0)).1) (((fr19 6).xs.getD 5 (none, 0)).2) 91 4 [])]) (fun w hw => unbag_mem (k := 9) (nk := [11, 12, 13]) (keys := [5, 10, 11, 12, 13]) hw rfl rfl rfl rfl (by kernel_rfl)) ?_
  have hy := Option.some.inj hm
  subst hy
  refine GS.ret (fn := Tryz.f15) [0, 0] [.pointer (some ⟨(fr19 8).x, 0, none⟩), .int .i64 0] [] rfl Tryz.func15 (by kernel_rfl) trivial (fun w' hs => ?_)
  exact ⟨⟨(fr19 8).x, (fr16 3).ob, (fr16 3).cap, ((fr19 6).xs.getD 0 (none, 0)).1, ((fr19 6).xs.getD 1 (none, 0)).2, ((fr19 6).xs.getD 2 (none, 0)).1, ((fr19 6).xs.getD 3 (none, 0)).2, ((fr19 6).xs.getD 4 (none, 0)).1, ((fr19 6).xs.getD 5 (none, 0)).2⟩, rfl, hs.turnedG (ks := [10, 5, 11, 12, 13]) rfl rfl⟩

theorem w_slices_IndexFunc___api_Msg_api_Msg_ (F : Nat) (a1c0b : Nat) (a1c0_40_o : Option Addr) (a1c0_40_c : Nat) {y : Unit} (hm : m_slices_IndexFunc___api_Msg_api_Msg_ F = some y) : CallG Tryz.prog 85 #[.slice none 0 0, .func (.func 64) #[] #[.pointer (some ⟨a1c0b, 0, none⟩)]] (X := Unit) (fun (_ : Unit) => .int .i64 (-1)) [] [.rd a1c0_40_o 1 [[.int .u8 120]], .rd (some ⟨a1c0b, 0, none⟩) 46 [(kc19 a1c0_40_o a1c0_40_c)]] (fun (_ : Unit) => []) := by
  intro w hg
  rw [m_slices_IndexFunc___api_Msg_api_Msg_] at hm
  refine GS.start (S := mayT [] [.rd a1c0_40_o 1 [[.int .u8 120]], .rd (some ⟨a1c0b, 0, none⟩) 46 [(kc19 a1c0_40_o a1c0_40_c)]]) (mem := [(1, .rd a1c0_40_o 1 [[.int .u8 120]]), (2, .rd (some ⟨a1c0b, 0, none⟩) 46 [(kc19 a1c0_40_o a1c0_40_c)])]) Tryz.func85 rfl Tryz.ntmps85 (Nat.le_of_ble_eq_true rfl) (hg.start rfl) ?_
  refine GS.conv (env' := [(0, .slice none 0 0), (1, .func (.func 64) #[] #[.pointer (some ⟨a1c0b, 0, none⟩)])]) rfl rfl ?_
  refine GS.seq ?_
  refine GS.region (env' := fun _ => [(0, .slice none 0 0), (1, .func (.func 64) #[] #[.pointer (some ⟨a1c0b, 0, none⟩)])]) (mem' := fun _ => [(1, .rd a1c0_40_o 1 [[.int .u8 120]]), (2, .rd (some ⟨a1c0b, 0, none⟩) 46 [(kc19 a1c0_40_o a1c0_40_c)])]) (RunsTo.mk [] [0, 1] [1, 2] (fun _ => []) (fun _ => by kernel_rfl) (fun _ => trivial)) ?_
  intro _
  refine GS.seq ?_
  refine GS.seq ?_
  refine GS.region (env' := fun _ => [(0, .slice none 0 0), (1, .func (.func 64) #[] #[.pointer (some ⟨a1c0b, 0, none⟩)]), (7, .int .i64 0), (8, .int .i64 0)]) (mem' := fun _ => [(1, .rd a1c0_40_o 1 [[.int .u8 120]]), (2, .rd (some ⟨a1c0b, 0, none⟩) 46 [(kc19 a1c0_40_o a1c0_40_c)])]) (RunsTo.mk [] [0, 1, 7, 8] [1, 2] (fun _ => []) (fun _ => by kernel_rfl) (fun _ => trivial)) ?_
  intro _
  refine GS.block ?_
  refine GS.loop ?_
  refine GS.seq ?_
  refine GS.region (env' := fun _ => [(0, .slice none 0 0), (1, .func (.func 64) #[] #[.pointer (some ⟨a1c0b, 0, none⟩)]), (7, .int .i64 0), (8, .int .i64 0), (9, .bool false)]) (mem' := fun _ => [(1, .rd a1c0_40_o 1 [[.int .u8 120]]), (2, .rd (some ⟨a1c0b, 0, none⟩) 46 [(kc19 a1c0_40_o a1c0_40_c)])]) (RunsTo.mk [] [0, 1, 7, 8, 9] [1, 2] (fun _ => []) (fun _ => by kernel_rfl) (fun _ => trivial)) ?_
  intro _
  refine GS.seq ?_
  refine GS.cond (t := false) rfl rfl (fun hf => by cases hf) (fun _ => ?_)
  refine GS.exit rfl ?_
  refine GS.seq ?_
  refine GS.region (env' := fun _ => [(4, .int .i64 (-1))]) (mem' := fun _ => []) (RunsTo.mk [] [4] [] (fun _ => []) (fun _ => by kernel_rfl) (fun _ => trivial)) ?_
  intro _
  have hy := Option.some.inj hm
  subst hy
  refine GS.ret (fn := Tryz.f85) [0] [.int .i64 (-1)] [] rfl Tryz.func85 (by kernel_rfl) trivial (fun w' hs => ?_)
  exact ⟨(), rfl, hs.turnedG (ks := []) rfl rfl⟩

theorem w_slices_ContainsFunc___api_Msg_api_Msg_ (F : Nat) (a1c0b : Nat) (a1c0_40_o : Option Addr) (a1c0_40_c : Nat) {y : Unit} (hm : m_slices_ContainsFunc___api_Msg_api_Msg_ F = some y) : CallG Tryz.prog 66 #[.slice none 0 0, .func (.func 64) #[] #[.pointer (some ⟨a1c0b, 0, none⟩)]] (X := Unit) (fun (_ : Unit) => .bool false) [] [.rd a1c0_40_o 1 [[.int .u8 120]], .rd (some ⟨a1c0b, 0, none⟩) 46 [(kc19 a1c0_40_o a1c0_40_c)]] (fun (_ : Unit) => []) := by
  intro w hg
  rw [m_slices_ContainsFunc___api_Msg_api_Msg_] at hm
  refine GS.start (S := mayT [] [.rd a1c0_40_o 1 [[.int .u8 120]], .rd (some ⟨a1c0b, 0, none⟩) 46 [(kc19 a1c0_40_o a1c0_40_c)]]) (mem := [(1, .rd a1c0_40_o 1 [[.int .u8 120]]), (2, .rd (some ⟨a1c0b, 0, none⟩) 46 [(kc19 a1c0_40_o a1c0_40_c)])]) Tryz.func66 rfl Tryz.ntmps66 (Nat.le_of_ble_eq_true rfl) (hg.start rfl) ?_
  refine GS.conv (env' := [(0, .slice none 0 0), (1, .func (.func 64) #[] #[.pointer (some ⟨a1c0b, 0, none⟩)])]) rfl rfl ?_
  refine GS.seq ?_
  refine GS.region (env' := fun _ => [(0, .slice none 0 0), (1, .func (.func 64) #[] #[.pointer (some ⟨a1c0b, 0, none⟩)])]) (mem' := fun _ => [(1, .rd a1c0_40_o 1 [[.int .u8 120]]), (2, .rd (some ⟨a1c0b, 0, none⟩) 46 [(kc19 a1c0_40_o a1c0_40_c)])]) (RunsTo.mk [] [0, 1] [1, 2] (fun _ => []) (fun _ => by kernel_rfl) (fun _ => trivial)) ?_
  intro _
  refine GS.seq ?_
  refine bnd_elim hm (fun y3 e4 hm => ?_)
  refine GS.region (env' := fun _ => [(4, .bool false)]) (mem' := fun _ => []) (RunsTo.mk [(2, { act := .call [1, 2] (.int .i64 (-1)) })] [4] [] (fun _ => [CallOK Tryz.prog 85 #[.slice none 0 0, .func (.func 64) #[] #[.pointer (some ⟨a1c0b, 0, none⟩)]] (.int .i64 (-1)) [some (.rd a1c0_40_o 1 [[.int .u8 120]]), some (.rd (some ⟨a1c0b, 0, none⟩) 46 [(kc19 a1c0_40_o a1c0_40_c)])]]) (fun _ => by kernel_rfl) (fun _ => ⟨(by have h1 := w_slices_IndexFunc___api_Msg_api_Msg_ F a1c0b a1c0_40_o a1c0_40_c e4; exact h1.ok ⟨(.inl ⟨.rd a1c0_40_o 1 [[.int .u8 120]], .head _, Cov.refl _⟩), (.inl ⟨.rd (some ⟨a1c0b, 0, none⟩) 46 [(kc19 a1c0_40_o a1c0_40_c)], (.tail _ (.head _)), Cov.refl _⟩), trivial⟩), trivial⟩)) ?_
  intro _
  have hy := Option.some.inj hm
  subst hy
  refine GS.ret (fn := Tryz.f66) [0] [.bool false] [] rfl Tryz.func66 (by kernel_rfl) trivial (fun w' hs => ?_)
  exact ⟨(), rfl, hs.turnedG (ks := []) rfl rfl⟩

theorem w_slices_Clone___byte_byte_ (F : Nat) (a0_o : Option Addr) (a0_c : Nat) {y : Unit} (hm : m_slices_Clone___byte_byte_ F = some y) : CallG Tryz.prog 67 #[.slice a0_o 1 a0_c] (X := Option Addr × Nat) (fun ⟨x0, x1⟩ => .slice x0 1 x1) [] [.rd a0_o 1 [[.int .u8 120]]] (fun ⟨x0, x1⟩ => [.osl x0 x1 5 1 [[.int .u8 120]]]) := by
  intro w hg
  rw [m_slices_Clone___byte_byte_] at hm
  refine GS.start (S := mayT [] [.rd a0_o 1 [[.int .u8 120]]]) (mem := [(1, .rd a0_o 1 [[.int .u8 120]])]) Tryz.func67 rfl Tryz.ntmps67 (Nat.le_of_ble_eq_true rfl) (hg.start rfl) ?_
  refine GS.conv (env' := [(0, .slice a0_o 1 a0_c)]) rfl rfl ?_
  refine GS.seq ?_
  refine GS.region (env' := fun _ => [(0, .slice a0_o 1 a0_c)]) (mem' := fun _ => [(1, .rd a0_o 1 [[.int .u8 120]])]) (RunsTo.mk [] [0] [1] (fun _ => []) (fun _ => by kernel_rfl) (fun _ => trivial)) ?_
  intro _
  refine GS.seq ?_
  refine GS.seq ?_
  refine GS.know (p := a0_o.isNone = false) (fun w hw => ne_rd (hw.ok 1 _ rfl)) (fun k2 => ?_)
  refine GS.region (env' := fun _ => [(0, .slice a0_o 1 a0_c), (4, .bool false)]) (mem' := fun _ => [(1, .rd a0_o 1 [[.int .u8 120]])]) (RunsTo.mk [(1, { act := .nilq, sp := some (.bool false) })] [0, 4] [1] (fun _ => [((.bool a0_o.isNone : Value)) = .bool false]) (fun _ => by kernel_rfl) (fun _ => ⟨(bool_eq k2), trivial⟩)) ?_
  intro _
  refine GS.cond (t := false) rfl rfl (fun hf => by cases hf) (fun _ => ?_)
  refine GS.skip ?_
  refine GS.seq ?_
  refine GS.region (env' := fun fr4 => [(2, .slice ((fr4 2).ob) 1 ((fr4 2).cap))]) (mem' := fun fr4 => [(2, .osl ((fr4 2).ob) ((fr4 2).cap) 5 1 (([] : List (List Value)) ++ ([[.int .u8 120]] : List (List Value))))]) (RunsTo.mk [(0, { act := .new (.row 0 1), key := some 2 }), (2, { act := .app (some 1), key := some 2, spf := some (fun f => .slice (f.ob) 1 (f.cap)) })] [2] [2] (fun fr4 => [a0_o = a0_o, 1 = ([[.int .u8 120]] : List (List Value)).length, (some (Addr.mk (fr4 0).x 0 none)) = (some (Addr.mk (fr4 0).x 0 none)), 0 = 0, 0 = ([] : List (List Value)).length, (([] : List (List Value)).length + ([[.int .u8 120]] : List (List Value)).length) * (1 + 1) ≤ 70368744177664, ([[.int .u8 120]] : List (List Value)).flatten.all Value.oneCell' = true, ((.slice ((fr4 2).ob) (0 + ([[.int .u8 120]] : List (List Value)).length) ((fr4 2).cap)) : Value) = .slice ((fr4 2).ob) 1 ((fr4 2).cap)]) (fun fr4 => by kernel_rfl) (fun fr4 => ⟨rfl, rfl, rfl, rfl, rfl, (show (0 + 1) * (1 + 1) ≤ 70368744177664 by decide), rfl, rfl, trivial⟩)) ?_
  intro fr4
  refine GS.conv (mem' := [(2, .osl ((fr4 2).ob) ((fr4 2).cap) 5 1 [[.int .u8 120]])]) rfl (congrArg (fun rr : List (List Value) => ([(2, .osl ((fr4 2).ob) ((fr4 2).cap) 5 1 rr)] : List (Nat × Ent))) (show ([] : List (List Value)) ++ ([[.int .u8 120]] : List (List Value)) = ([[.int .u8 120]] : List (List Value)) from rfl)) ?_
  have hy := Option.some.inj hm
  subst hy
  refine GS.ret (fn := Tryz.f67) [0] [.slice ((fr4 2).ob) 1 ((fr4 2).cap)] [] rfl Tryz.func67 (by kernel_rfl) trivial (fun w' hs => ?_)
  exact ⟨⟨(fr4 2).ob, (fr4 2).cap⟩, rfl, hs.turnedG (ks := [2]) rfl rfl⟩

theorem w_pglog_Seen (F : Nat) (a0_3_o : Option Addr) (a0_3_c : Nat) (a0_4_o : Option Addr) (a0_4_c : Nat) (a0_5_o : Option Addr) (a0_5_c : Nat) {y : Unit} (hm : m_pglog_Seen F = some y) : CallG Tryz.prog 86 #[.agg ((kc16 a0_3_o a0_3_c a0_4_o a0_4_c a0_5_o a0_5_c)).toArray, .int .i64 5, .int .i64 1] (X := Unit) (fun (_ : Unit) => .tuple #[.agg ((kc22)).toArray, .int .i64 0]) [] [.rd a0_3_o 7 [], .rd a0_4_o 5 [], .rd a0_5_o 4 []] (fun (_ : Unit) => []) := by
  intro w hg
  rw [m_pglog_Seen] at hm
  refine GS.start (S := mayT [] [.rd a0_3_o 7 [], .rd a0_4_o 5 [], .rd a0_5_o 4 []]) (mem := [(1, .rd a0_3_o 7 []), (2, .rd a0_4_o 5 []), (3, .rd a0_5_o 4 [])]) Tryz.func86 rfl Tryz.ntmps86 (Nat.le_of_ble_eq_true rfl) (hg.start rfl) ?_
  refine GS.conv (env' := [(0, .agg ((kc16 a0_3_o a0_3_c a0_4_o a0_4_c a0_5_o a0_5_c)).toArray), (1, .int .i64 5), (2, .int .i64 1)]) rfl rfl ?_
  refine GS.seq ?_
  refine GS.region (env' := fun fr1 => [(1, .int .i64 5), (2, .int .i64 1), (3, .pointer (some ⟨(fr1 0).x, 0, none⟩)), (6, .pointer (some ⟨(fr1 1).x, 0, none⟩))]) (mem' := fun fr1 => [(1, .rd a0_3_o 7 []), (2, .rd a0_4_o 5 []), (3, .rd a0_5_o 4 []), (4, .cells ((fr1 0).x) 28 (kc16 a0_3_o a0_3_c a0_4_o a0_4_c a0_5_o a0_5_c)), (5, .cells ((fr1 1).x) 94 (kc22))]) (RunsTo.mk [(0, { act := .new .var, key := some 4 }), (1, { act := .new .var, key := some 5 })] [1, 2, 3, 6] [1, 2, 3, 4, 5] (fun fr1 => []) (fun fr1 => by kernel_rfl) (fun fr1 => trivial)) ?_
  intro fr1
  refine GS.seq ?_
  refine GS.seq ?_
  refine GS.region (env' := fun _ => [(1, .int .i64 5), (2, .int .i64 1), (6, .pointer (some ⟨(fr1 1).x, 0, none⟩)), (11, .slice a0_4_o 0 a0_4_c), (12, .int .i64 0), (13, .int .i64 0)]) (mem' := fun _ => [(2, .rd a0_4_o 5 []), (5, .cells ((fr1 1).x) 94 (kc22))]) (RunsTo.mk [(1, { act := .load 4 0 0 [] })] [1, 2, 6, 11, 12, 13] [2, 5] (fun _ => [(fr1 0).x = (fr1 0).x]) (fun _ => by kernel_rfl) (fun _ => ⟨rfl, trivial⟩)) ?_
  intro _
  refine GS.block ?_
  refine GS.loop ?_
  refine GS.seq ?_
  refine GS.region (env' := fun _ => [(1, .int .i64 5), (2, .int .i64 1), (6, .pointer (some ⟨(fr1 1).x, 0, none⟩)), (11, .slice a0_4_o 0 a0_4_c), (12, .int .i64 0), (13, .int .i64 0), (14, .bool false)]) (mem' := fun _ => [(2, .rd a0_4_o 5 []), (5, .cells ((fr1 1).x) 94 (kc22))]) (RunsTo.mk [] [1, 2, 6, 11, 12, 13, 14] [2, 5] (fun _ => []) (fun _ => by kernel_rfl) (fun _ => trivial)) ?_
  intro _
  refine GS.seq ?_
  refine GS.cond (t := false) rfl rfl (fun hf => by cases hf) (fun _ => ?_)
  refine GS.exit rfl ?_
  refine GS.seq ?_
  refine GS.region (env' := fun _ => [(6, .pointer (some ⟨(fr1 1).x, 0, none⟩)), (7, .int .i64 0)]) (mem' := fun _ => [(5, .cells ((fr1 1).x) 94 (kc22))]) (RunsTo.mk [(1, { act := .store 0 0 [], key := some 5 })] [6, 7] [5] (fun _ => [(fr1 1).x = (fr1 1).x, ((.agg ((kc22)).toArray) : Value).cells.toList.all Value.oneCell' = true]) (fun _ => by kernel_rfl) (fun _ => ⟨rfl, rfl, trivial⟩)) ?_
  intro _
  have hy := Option.some.inj hm
  subst hy
  refine GS.ret (fn := Tryz.f86) [5, 0] [.agg ((kc22)).toArray, .int .i64 0] [(fr1 1).x = (fr1 1).x] rfl Tryz.func86 (by kernel_rfl) ⟨rfl, trivial⟩ (fun w' hs => ?_)
  exact ⟨(), rfl, hs.turnedG (ks := []) rfl rfl⟩

theorem w_pglog_Find (F : Nat) (a0_3_o : Option Addr) (a0_3_c : Nat) (a0_4_o : Option Addr) (a0_4_c : Nat) (a0_5_o : Option Addr) (a0_5_c : Nat) {y : Unit} (hm : m_pglog_Find F = some y) : CallG Tryz.prog 37 #[.agg ((kc16 a0_3_o a0_3_c a0_4_o a0_4_c a0_5_o a0_5_c)).toArray, .string (ByteArray.mk #[97])] (X := Unit) (fun (_ : Unit) => .tuple #[.agg ((kc24)).toArray, .bool false]) [] [.rd a0_3_o 7 [], .rd a0_4_o 5 [], .rd a0_5_o 4 []] (fun (_ : Unit) => []) := by
  intro w hg
  rw [m_pglog_Find] at hm
  refine GS.start (S := mayT [] [.rd a0_3_o 7 [], .rd a0_4_o 5 [], .rd a0_5_o 4 []]) (mem := [(1, .rd a0_3_o 7 []), (2, .rd a0_4_o 5 []), (3, .rd a0_5_o 4 [])]) Tryz.func37 rfl Tryz.ntmps37 (Nat.le_of_ble_eq_true rfl) (hg.start rfl) ?_
  refine GS.conv (env' := [(0, .agg ((kc16 a0_3_o a0_3_c a0_4_o a0_4_c a0_5_o a0_5_c)).toArray), (1, .string (ByteArray.mk #[97]))]) rfl rfl ?_
  refine GS.seq ?_
  refine GS.region (env' := fun fr1 => [(1, .string (ByteArray.mk #[97])), (2, .pointer (some ⟨(fr1 0).x, 0, none⟩)), (4, .pointer (some ⟨(fr1 1).x, 0, none⟩))]) (mem' := fun fr1 => [(1, .rd a0_3_o 7 []), (2, .rd a0_4_o 5 []), (3, .rd a0_5_o 4 []), (4, .cells ((fr1 0).x) 28 (kc16 a0_3_o a0_3_c a0_4_o a0_4_c a0_5_o a0_5_c)), (5, .cells ((fr1 1).x) 91 (kc24))]) (RunsTo.mk [(0, { act := .new .var, key := some 4 }), (1, { act := .new .var, key := some 5 })] [1, 2, 4] [1, 2, 3, 4, 5] (fun fr1 => []) (fun fr1 => by kernel_rfl) (fun fr1 => trivial)) ?_
  intro fr1
  refine GS.seq ?_
  refine GS.seq ?_
  refine GS.region (env' := fun _ => [(1, .string (ByteArray.mk #[97])), (4, .pointer (some ⟨(fr1 1).x, 0, none⟩)), (9, .slice a0_5_o 0 a0_5_c), (10, .int .i64 0), (11, .int .i64 0)]) (mem' := fun _ => [(3, .rd a0_5_o 4 []), (5, .cells ((fr1 1).x) 91 (kc24))]) (RunsTo.mk [(1, { act := .load 4 0 0 [] })] [1, 4, 9, 10, 11] [3, 5] (fun _ => [(fr1 0).x = (fr1 0).x]) (fun _ => by kernel_rfl) (fun _ => ⟨rfl, trivial⟩)) ?_
  intro _
  refine GS.block ?_
  refine GS.loop ?_
  refine GS.seq ?_
  refine GS.region (env' := fun _ => [(1, .string (ByteArray.mk #[97])), (4, .pointer (some ⟨(fr1 1).x, 0, none⟩)), (9, .slice a0_5_o 0 a0_5_c), (10, .int .i64 0), (11, .int .i64 0), (12, .bool false)]) (mem' := fun _ => [(3, .rd a0_5_o 4 []), (5, .cells ((fr1 1).x) 91 (kc24))]) (RunsTo.mk [] [1, 4, 9, 10, 11, 12] [3, 5] (fun _ => []) (fun _ => by kernel_rfl) (fun _ => trivial)) ?_
  intro _
  refine GS.seq ?_
  refine GS.cond (t := false) rfl rfl (fun hf => by cases hf) (fun _ => ?_)
  refine GS.exit rfl ?_
  refine GS.seq ?_
  refine GS.region (env' := fun _ => [(4, .pointer (some ⟨(fr1 1).x, 0, none⟩)), (5, .bool false)]) (mem' := fun _ => [(5, .cells ((fr1 1).x) 91 (kc24))]) (RunsTo.mk [(1, { act := .store 0 0 [], key := some 5 })] [4, 5] [5] (fun _ => [(fr1 1).x = (fr1 1).x, ((.agg ((kc24)).toArray) : Value).cells.toList.all Value.oneCell' = true]) (fun _ => by kernel_rfl) (fun _ => ⟨rfl, rfl, trivial⟩)) ?_
  intro _
  have hy := Option.some.inj hm
  subst hy
  refine GS.ret (fn := Tryz.f37) [5, 0] [.agg ((kc24)).toArray, .bool false] [(fr1 1).x = (fr1 1).x] rfl Tryz.func37 (by kernel_rfl) ⟨rfl, trivial⟩ (fun w' hs => ?_)
  exact ⟨(), rfl, hs.turnedG (ks := []) rfl rfl⟩

theorem w_place_Good (F : Nat) {y : Unit} (hm : m_place_Good F = some y) : CallG Tryz.prog 38 #[.string (ByteArray.mk #[97])] (X := Unit) (fun (_ : Unit) => .bool true) [] [] (fun (_ : Unit) => []) := by
  intro w hg
  rw [m_place_Good] at hm
  refine GS.start (S := mayT [] []) (mem := []) Tryz.func38 rfl Tryz.ntmps38 (Nat.le_of_ble_eq_true rfl) (hg.start rfl) ?_
  refine GS.conv (env' := [(0, .string (ByteArray.mk #[97]))]) rfl rfl ?_
  refine GS.seq ?_
  refine GS.region (env' := fun _ => [(0, .string (ByteArray.mk #[97]))]) (mem' := fun _ => []) (RunsTo.mk [] [0] [] (fun _ => []) (fun _ => by kernel_rfl) (fun _ => trivial)) ?_
  intro _
  refine GS.seq ?_
  refine GS.seq ?_
  refine GS.region (env' := fun _ => [(0, .string (ByteArray.mk #[97])), (6, .int .i64 1), (7, .int .i64 0)]) (mem' := fun _ => []) (RunsTo.mk [(1, { sp := some (.int .i64 1) })] [0, 6, 7] [] (fun _ => [((.int .i64 (((ByteArray.mk #[97]).size : Nat) : Int)) : Value) = .int .i64 1]) (fun _ => by kernel_rfl) (fun _ => ⟨rfl, trivial⟩)) ?_
  intro _
  refine GS.block ?_
  refine GS.loop ?_
  refine GS.seq ?_
  refine GS.region (env' := fun _ => [(0, .string (ByteArray.mk #[97])), (6, .int .i64 1), (7, .int .i64 0), (8, .bool true)]) (mem' := fun _ => []) (RunsTo.mk [] [0, 6, 7, 8] [] (fun _ => []) (fun _ => by kernel_rfl) (fun _ => trivial)) ?_
  intro _
  refine GS.seq ?_
  refine GS.cond (t := true) rfl rfl (fun _ => ?_) (fun hf => by cases hf)
  refine GS.skip ?_
  refine GS.seq ?_
  refine GS.block ?_
  refine GS.seq ?_
  refine GS.region (env' := fun _ => [(0, .string (ByteArray.mk #[97])), (3, .int .i64 0), (6, .int .i64 1), (7, .int .i64 0)]) (mem' := fun _ => []) (RunsTo.mk [] [0, 3, 6, 7] [] (fun _ => []) (fun _ => by kernel_rfl) (fun _ => trivial)) ?_
  intro _
  refine GS.seq ?_
  refine GS.region (env' := fun _ => [(0, .string (ByteArray.mk #[97])), (4, .int .u8 97), (6, .int .i64 1), (7, .int .i64 0)]) (mem' := fun _ => []) (RunsTo.mk [(2, { act := .elt 0, sp := some (.int .u8 97) })] [0, 4, 6, 7] [] (fun _ => [(0 : Int) = ((0 : Nat) : Int), 0 < (ByteArray.mk #[97]).size, ((.int .u8 ((((ByteArray.mk #[97]).data.getD 0 0).toNat : Nat) : Int)) : Value) = .int .u8 97]) (fun _ => by kernel_rfl) (fun _ => ⟨rfl, (Nat.le_of_ble_eq_true rfl), (by kernel_rfl), trivial⟩)) ?_
  intro _
  refine GS.block ?_
  refine GS.seq ?_
  refine GS.seq ?_
  refine GS.region (env' := fun _ => [(0, .string (ByteArray.mk #[97])), (4, .int .u8 97), (6, .int .i64 1), (7, .int .i64 0), (13, .bool false)]) (mem' := fun _ => []) (RunsTo.mk [] [0, 4, 6, 7, 13] [] (fun _ => []) (fun _ => by kernel_rfl) (fun _ => trivial)) ?_
  intro _
  refine GS.cond (t := false) rfl rfl (fun hf => by cases hf) (fun _ => ?_)
  refine GS.region (env' := fun _ => [(0, .string (ByteArray.mk #[97])), (6, .int .i64 1), (7, .int .i64 0), (13, .bool false)]) (mem' := fun _ => []) (RunsTo.mk [] [0, 6, 7, 13] [] (fun _ => []) (fun _ => by kernel_rfl) (fun _ => trivial)) ?_
  intro _
  refine GS.cond (t := false) rfl rfl (fun hf => by cases hf) (fun _ => ?_)
  refine GS.skip ?_
  refine GS.inBlock ?_
  refine GS.inBlock ?_
  refine GS.region (env' := fun _ => [(0, .string (ByteArray.mk #[97])), (6, .int .i64 1), (7, .int .i64 1)]) (mem' := fun _ => []) (RunsTo.mk [] [0, 6, 7] [] (fun _ => []) (fun _ => by kernel_rfl) (fun _ => trivial)) ?_
  intro _
  refine GS.inLoop ?_
  refine GS.seq ?_
  refine GS.region (env' := fun _ => [(0, .string (ByteArray.mk #[97])), (6, .int .i64 1), (7, .int .i64 1), (8, .bool false)]) (mem' := fun _ => []) (RunsTo.mk [] [0, 6, 7, 8] [] (fun _ => []) (fun _ => by kernel_rfl) (fun _ => trivial)) ?_
  intro _
  refine GS.seq ?_
  refine GS.cond (t := false) rfl rfl (fun hf => by cases hf) (fun _ => ?_)
  refine GS.exit rfl ?_
  refine GS.seq ?_
  refine GS.region (env' := fun _ => [(2, .bool true)]) (mem' := fun _ => []) (RunsTo.mk [(1, { sp := some (.bool true) }), (4, { sp := some (.int .i64 1) })] [2] [] (fun _ => [((.bool (!((ByteArray.mk #[97]).toList == (ByteArray.mk #[]).toList))) : Value) = .bool true, ((.int .i64 (((ByteArray.mk #[97]).size : Nat) : Int)) : Value) = .int .i64 1]) (fun _ => by kernel_rfl) (fun _ => ⟨(by kernel_rfl), rfl, trivial⟩)) ?_
  intro _
  have hy := Option.some.inj hm
  subst hy
  refine GS.ret (fn := Tryz.f38) [0] [.bool true] [] rfl Tryz.func38 (by kernel_rfl) trivial (fun w' hs => ?_)
  exact ⟨(), rfl, hs.turnedG (ks := []) rfl rfl⟩

theorem w_primary_Verdict (F : Nat) (a0_3_o : Option Addr) (a0_3_c : Nat) (a0_4_o : Option Addr) (a0_4_c : Nat) (a0_5_o : Option Addr) (a0_5_c : Nat) (a1_2_o : Option Addr) (a1_2_c : Nat) {y : Unit} (hm : m_primary_Verdict F = some y) : CallG Tryz.prog 11 #[.agg ((kc16 a0_3_o a0_3_c a0_4_o a0_4_c a0_5_o a0_5_c)).toArray, .agg ((kc23 a1_2_o a1_2_c)).toArray] (X := Unit) (fun (_ : Unit) => .int .i64 0) [] [.rd a0_3_o 7 [], .rd a0_4_o 5 [], .rd a0_5_o 4 [], .rd a1_2_o 1 [[.int .u8 120]]] (fun (_ : Unit) => []) := by
  intro w hg
  rw [m_primary_Verdict] at hm
  refine GS.start (S := mayT [] [.rd a0_3_o 7 [], .rd a0_4_o 5 [], .rd a0_5_o 4 [], .rd a1_2_o 1 [[.int .u8 120]]]) (mem := [(1, .rd a0_3_o 7 []), (2, .rd a0_4_o 5 []), (3, .rd a0_5_o 4 []), (4, .rd a1_2_o 1 [[.int .u8 120]])]) Tryz.func11 rfl Tryz.ntmps11 (Nat.le_of_ble_eq_true rfl) (hg.start rfl) ?_
  refine GS.conv (env' := [(0, .agg ((kc16 a0_3_o a0_3_c a0_4_o a0_4_c a0_5_o a0_5_c)).toArray), (1, .agg ((kc23 a1_2_o a1_2_c)).toArray)]) rfl rfl ?_
  refine GS.seq ?_
  refine GS.region (env' := fun fr1 => [(2, .pointer (some ⟨(fr1 0).x, 0, none⟩)), (3, .pointer (some ⟨(fr1 1).x, 0, none⟩))]) (mem' := fun fr1 => [(1, .rd a0_3_o 7 []), (2, .rd a0_4_o 5 []), (3, .rd a0_5_o 4 []), (4, .rd a1_2_o 1 [[.int .u8 120]]), (5, .cells ((fr1 0).x) 28 (kc16 a0_3_o a0_3_c a0_4_o a0_4_c a0_5_o a0_5_c)), (6, .cells ((fr1 1).x) 34 (kc23 a1_2_o a1_2_c))]) (RunsTo.mk [(0, { act := .new .var, key := some 5 }), (1, { act := .new .var, key := some 6 })] [2, 3] [1, 2, 3, 4, 5, 6] (fun fr1 => []) (fun fr1 => by kernel_rfl) (fun fr1 => trivial)) ?_
  intro fr1
  refine GS.seq ?_
  refine bnd_elim hm (fun y3 e4 hm => ?_)
  refine GS.region (env' := fun fr2 => [(2, .pointer (some ⟨(fr1 0).x, 0, none⟩)), (3, .pointer (some ⟨(fr1 1).x, 0, none⟩)), (5, .pointer (some ⟨(fr2 7).x, 0, none⟩)), (6, .bool false)]) (mem' := fun fr2 => [(1, .rd a0_3_o 7 []), (2, .rd a0_4_o 5 []), (3, .rd a0_5_o 4 []), (4, .rd a1_2_o 1 [[.int .u8 120]]), (5, .cells ((fr1 0).x) 28 (kc16 a0_3_o a0_3_c a0_4_o a0_4_c a0_5_o a0_5_c)), (6, .cells ((fr1 1).x) 34 (kc23 a1_2_o a1_2_c)), (7, .cells ((fr2 7).x) 91 (kc24))]) (RunsTo.mk [(0, { act := .load 5 0 0 [] }), (2, { act := .load 6 0 0 [] }), (3, { act := .call [1, 2, 3] (.tuple #[.agg ((kc24)).toArray, .bool false]) }), (7, { act := .new .var, key := some 7 }), (8, { act := .store 0 0 [], key := some 7 })] [2, 3, 5, 6] [1, 2, 3, 4, 5, 6, 7] (fun fr2 => [(fr1 0).x = (fr1 0).x, (fr1 1).x = (fr1 1).x, CallOK Tryz.prog 37 #[.agg ((kc16 a0_3_o a0_3_c a0_4_o a0_4_c a0_5_o a0_5_c)).toArray, .string (ByteArray.mk #[97])] (.tuple #[.agg ((kc24)).toArray, .bool false]) [some (.rd a0_3_o 7 []), some (.rd a0_4_o 5 []), some (.rd a0_5_o 4 [])], (fr2 7).x = (fr2 7).x, ((.agg ((kc24)).toArray) : Value).cells.toList.all Value.oneCell' = true]) (fun fr2 => by kernel_rfl) (fun fr2 => ⟨rfl, rfl, (by have h1 := w_pglog_Find F a0_3_o a0_3_c a0_4_o a0_4_c a0_5_o a0_5_c e4; exact h1.ok ⟨(.inl ⟨.rd a0_3_o 7 [], .head _, Cov.refl _⟩), (.inl ⟨.rd a0_4_o 5 [], (.tail _ (.head _)), Cov.refl _⟩), (.inl ⟨.rd a0_5_o 4 [], (.tail _ (.tail _ (.head _))), Cov.refl _⟩), trivial⟩), rfl, rfl, trivial⟩)) ?_
  intro fr2
  refine GS.seq ?_
  refine GS.region (env' := fun _ => [(3, .pointer (some ⟨(fr1 1).x, 0, none⟩)), (5, .pointer (some ⟨(fr2 7).x, 0, none⟩)), (6, .bool false), (7, .bool false)]) (mem' := fun _ => [(4, .rd a1_2_o 1 [[.int .u8 120]]), (6, .cells ((fr1 1).x) 34 (kc23 a1_2_o a1_2_c)), (7, .cells ((fr2 7).x) 91 (kc24))]) (RunsTo.mk [(4, { act := .load 5 0 0 [] })] [3, 5, 6, 7] [4, 6, 7] (fun _ => [(fr1 0).x = (fr1 0).x]) (fun _ => by kernel_rfl) (fun _ => ⟨rfl, trivial⟩)) ?_
  intro _
  refine GS.seq ?_
  refine GS.seq ?_
  refine GS.region (env' := fun _ => [(3, .pointer (some ⟨(fr1 1).x, 0, none⟩)), (5, .pointer (some ⟨(fr2 7).x, 0, none⟩)), (6, .bool false), (7, .bool false), (24, .int .i64 2)]) (mem' := fun _ => [(4, .rd a1_2_o 1 [[.int .u8 120]]), (6, .cells ((fr1 1).x) 34 (kc23 a1_2_o a1_2_c)), (7, .cells ((fr2 7).x) 91 (kc24))]) (RunsTo.mk [(1, { act := .load 6 0 0 [] })] [3, 5, 6, 7, 24] [4, 6, 7] (fun _ => [(fr1 1).x = (fr1 1).x]) (fun _ => by kernel_rfl) (fun _ => ⟨rfl, trivial⟩)) ?_
  intro _
  refine GS.block ?_
  refine GS.seq ?_
  refine GS.seq ?_
  refine GS.region (env' := fun _ => [(3, .pointer (some ⟨(fr1 1).x, 0, none⟩)), (5, .pointer (some ⟨(fr2 7).x, 0, none⟩)), (6, .bool false), (7, .bool false), (24, .int .i64 2), (25, .bool true)]) (mem' := fun _ => [(4, .rd a1_2_o 1 [[.int .u8 120]]), (6, .cells ((fr1 1).x) 34 (kc23 a1_2_o a1_2_c)), (7, .cells ((fr2 7).x) 91 (kc24))]) (RunsTo.mk [] [3, 5, 6, 7, 24, 25] [4, 6, 7] (fun _ => []) (fun _ => by kernel_rfl) (fun _ => trivial)) ?_
  intro _
  refine GS.cond (t := true) rfl rfl (fun _ => ?_) (fun hf => by cases hf)
  refine GS.skip ?_
  refine GS.cond (t := true) rfl rfl (fun _ => ?_) (fun hf => by cases hf)
  refine GS.skip ?_
  refine GS.inBlock ?_
  refine GS.seq ?_
  refine GS.block ?_
  refine GS.seq ?_
  refine bnd_elim hm (fun y9 e10 hm => ?_)
  refine GS.region (env' := fun _ => [(3, .pointer (some ⟨(fr1 1).x, 0, none⟩)), (5, .pointer (some ⟨(fr2 7).x, 0, none⟩)), (6, .bool false), (7, .bool false), (29, .bool false)]) (mem' := fun _ => [(4, .rd a1_2_o 1 [[.int .u8 120]]), (6, .cells ((fr1 1).x) 34 (kc23 a1_2_o a1_2_c)), (7, .cells ((fr2 7).x) 91 (kc24))]) (RunsTo.mk [(1, { act := .load 6 0 0 [] }), (2, { act := .call [] (.bool true) })] [3, 5, 6, 7, 29] [4, 6, 7] (fun _ => [(fr1 1).x = (fr1 1).x, CallOK Tryz.prog 38 #[.string (ByteArray.mk #[97])] (.bool true) []]) (fun _ => by kernel_rfl) (fun _ => ⟨rfl, (by have h1 := w_place_Good F  e10; exact h1.ok trivial), trivial⟩)) ?_
  intro _
  refine GS.cond (t := false) rfl rfl (fun hf => by cases hf) (fun _ => ?_)
  refine GS.seq ?_
  refine GS.region (env' := fun _ => [(3, .pointer (some ⟨(fr1 1).x, 0, none⟩)), (5, .pointer (some ⟨(fr2 7).x, 0, none⟩)), (6, .bool false), (7, .bool false), (34, .bool false)]) (mem' := fun _ => [(4, .rd a1_2_o 1 [[.int .u8 120]]), (6, .cells ((fr1 1).x) 34 (kc23 a1_2_o a1_2_c)), (7, .cells ((fr2 7).x) 91 (kc24))]) (RunsTo.mk [(1, { act := .load 6 0 0 [] })] [3, 5, 6, 7, 34] [4, 6, 7] (fun _ => [(fr1 1).x = (fr1 1).x]) (fun _ => by kernel_rfl) (fun _ => ⟨rfl, trivial⟩)) ?_
  intro _
  refine GS.cond (t := false) rfl rfl (fun hf => by cases hf) (fun _ => ?_)
  refine GS.seq ?_
  refine GS.region (env' := fun _ => [(3, .pointer (some ⟨(fr1 1).x, 0, none⟩)), (5, .pointer (some ⟨(fr2 7).x, 0, none⟩)), (7, .bool false), (39, .bool false)]) (mem' := fun _ => [(4, .rd a1_2_o 1 [[.int .u8 120]]), (6, .cells ((fr1 1).x) 34 (kc23 a1_2_o a1_2_c)), (7, .cells ((fr2 7).x) 91 (kc24))]) (RunsTo.mk [(1, { act := .load 6 0 0 [] })] [3, 5, 7, 39] [4, 6, 7] (fun _ => [(fr1 1).x = (fr1 1).x]) (fun _ => by kernel_rfl) (fun _ => ⟨rfl, trivial⟩)) ?_
  intro _
  refine GS.cond (t := false) rfl rfl (fun hf => by cases hf) (fun _ => ?_)
  refine GS.seq ?_
  refine GS.region (env' := fun _ => [(3, .pointer (some ⟨(fr1 1).x, 0, none⟩)), (7, .bool false), (47, .bool false)]) (mem' := fun _ => [(4, .rd a1_2_o 1 [[.int .u8 120]]), (6, .cells ((fr1 1).x) 34 (kc23 a1_2_o a1_2_c))]) (RunsTo.mk [(1, { act := .load 6 0 0 [] })] [3, 7, 47] [4, 6] (fun _ => [(fr1 1).x = (fr1 1).x]) (fun _ => by kernel_rfl) (fun _ => ⟨rfl, trivial⟩)) ?_
  intro _
  refine GS.cond (t := false) rfl rfl (fun hf => by cases hf) (fun _ => ?_)
  refine GS.seq ?_
  refine GS.region (env' := fun _ => [(58, .bool false)]) (mem' := fun _ => []) (RunsTo.mk [(1, { act := .load 6 0 0 [] })] [58] [] (fun _ => [(fr1 1).x = (fr1 1).x]) (fun _ => by kernel_rfl) (fun _ => ⟨rfl, trivial⟩)) ?_
  intro _
  refine GS.cond (t := false) rfl rfl (fun hf => by cases hf) (fun _ => ?_)
  refine GS.skip ?_
  refine GS.inBlock ?_
  refine GS.seq ?_
  refine GS.region (env' := fun _ => [(4, .int .i64 0)]) (mem' := fun _ => []) (RunsTo.mk [] [4] [] (fun _ => []) (fun _ => by kernel_rfl) (fun _ => trivial)) ?_
  intro _
  have hy := Option.some.inj hm
  subst hy
  refine GS.ret (fn := Tryz.f11) [0] [.int .i64 0] [] rfl Tryz.func11 (by kernel_rfl) trivial (fun w' hs => ?_)
  exact ⟨(), rfl, hs.turnedG (ks := []) rfl rfl⟩

theorem w_pglog_Head (F : Nat) (a0_3_o : Option Addr) (a0_3_c : Nat) (a0_4_o : Option Addr) (a0_4_c : Nat) (a0_5_o : Option Addr) (a0_5_c : Nat) {y : Unit} (hm : m_pglog_Head F = some y) : CallG Tryz.prog 30 #[.agg ((kc16 a0_3_o a0_3_c a0_4_o a0_4_c a0_5_o a0_5_c)).toArray] (X := Unit) (fun (_ : Unit) => .agg #[.int .i64 0, .int .i64 0]) [] [.rd a0_3_o 7 [], .rd a0_4_o 5 [], .rd a0_5_o 4 []] (fun (_ : Unit) => []) := by
  intro w hg
  rw [m_pglog_Head] at hm
  refine GS.start (S := mayT [] [.rd a0_3_o 7 [], .rd a0_4_o 5 [], .rd a0_5_o 4 []]) (mem := [(1, .rd a0_3_o 7 []), (2, .rd a0_4_o 5 []), (3, .rd a0_5_o 4 [])]) Tryz.func30 rfl Tryz.ntmps30 (Nat.le_of_ble_eq_true rfl) (hg.start rfl) ?_
  refine GS.conv (env' := [(0, .agg ((kc16 a0_3_o a0_3_c a0_4_o a0_4_c a0_5_o a0_5_c)).toArray)]) rfl rfl ?_
  refine GS.seq ?_
  refine GS.region (env' := fun fr1 => [(1, .pointer (some ⟨(fr1 0).x, 0, none⟩)), (2, .pointer (some ⟨(fr1 1).x, 0, none⟩))]) (mem' := fun fr1 => [(1, .rd a0_3_o 7 []), (2, .rd a0_4_o 5 []), (3, .rd a0_5_o 4 []), (4, .cells ((fr1 0).x) 28 (kc16 a0_3_o a0_3_c a0_4_o a0_4_c a0_5_o a0_5_c)), (5, .cells ((fr1 1).x) 23 [.int .i64 0, .int .i64 0])]) (RunsTo.mk [(0, { act := .new .var, key := some 4 }), (1, { act := .new .var, key := some 5 })] [1, 2] [1, 2, 3, 4, 5] (fun fr1 => []) (fun fr1 => by kernel_rfl) (fun fr1 => trivial)) ?_
  intro fr1
  refine GS.seq ?_
  refine GS.seq ?_
  refine GS.region (env' := fun _ => [(1, .pointer (some ⟨(fr1 0).x, 0, none⟩)), (2, .pointer (some ⟨(fr1 1).x, 0, none⟩)), (3, .int .i64 0)]) (mem' := fun _ => [(1, .rd a0_3_o 7 []), (2, .rd a0_4_o 5 []), (3, .rd a0_5_o 4 []), (4, .cells ((fr1 0).x) 28 (kc16 a0_3_o a0_3_c a0_4_o a0_4_c a0_5_o a0_5_c)), (5, .cells ((fr1 1).x) 23 [.int .i64 0, .int .i64 0])]) (RunsTo.mk [(1, { act := .load 4 0 0 [] })] [1, 2, 3] [1, 2, 3, 4, 5] (fun _ => [(fr1 0).x = (fr1 0).x]) (fun _ => by kernel_rfl) (fun _ => ⟨rfl, trivial⟩)) ?_
  intro _
  refine GS.seq ?_
  refine GS.region (env' := fun _ => [(1, .pointer (some ⟨(fr1 0).x, 0, none⟩)), (2, .pointer (some ⟨(fr1 1).x, 0, none⟩)), (3, .int .i64 0), (8, .bool false)]) (mem' := fun _ => [(1, .rd a0_3_o 7 []), (2, .rd a0_4_o 5 []), (3, .rd a0_5_o 4 []), (4, .cells ((fr1 0).x) 28 (kc16 a0_3_o a0_3_c a0_4_o a0_4_c a0_5_o a0_5_c)), (5, .cells ((fr1 1).x) 23 [.int .i64 0, .int .i64 0])]) (RunsTo.mk [] [1, 2, 3, 8] [1, 2, 3, 4, 5] (fun _ => []) (fun _ => by kernel_rfl) (fun _ => trivial)) ?_
  intro _
  refine GS.cond (t := false) rfl rfl (fun hf => by cases hf) (fun _ => ?_)
  refine GS.skip ?_
  refine GS.seq ?_
  refine GS.region (env' := fun _ => [(2, .pointer (some ⟨(fr1 1).x, 0, none⟩))]) (mem' := fun _ => [(5, .cells ((fr1 1).x) 23 [.int .i64 0, .int .i64 0])]) (RunsTo.mk [(1, { act := .load 4 0 0 [] }), (2, { act := .store 0 0 [], key := some 5 })] [2] [5] (fun _ => [(fr1 0).x = (fr1 0).x, (fr1 1).x = (fr1 1).x, ((.agg #[.int .i64 0, .int .i64 0]) : Value).cells.toList.all Value.oneCell' = true]) (fun _ => by kernel_rfl) (fun _ => ⟨rfl, rfl, rfl, trivial⟩)) ?_
  intro _
  have hy := Option.some.inj hm
  subst hy
  refine GS.ret (fn := Tryz.f30) [5] [.agg #[.int .i64 0, .int .i64 0]] [(fr1 1).x = (fr1 1).x] rfl Tryz.func30 (by kernel_rfl) ⟨rfl, trivial⟩ (fun w' hs => ?_)
  exact ⟨(), rfl, hs.turnedG (ks := []) rfl rfl⟩

theorem w_primary_Next (F : Nat) (a0_3_o : Option Addr) (a0_3_c : Nat) (a0_4_o : Option Addr) (a0_4_c : Nat) (a0_5_o : Option Addr) (a0_5_c : Nat) {y : Unit} (hm : m_primary_Next F = some y) : CallG Tryz.prog 13 #[.agg ((kc16 a0_3_o a0_3_c a0_4_o a0_4_c a0_5_o a0_5_c)).toArray, .int .i64 3] (X := Unit) (fun (_ : Unit) => .agg #[.int .i64 3, .int .i64 1]) [] [.rd a0_3_o 7 [], .rd a0_4_o 5 [], .rd a0_5_o 4 []] (fun (_ : Unit) => []) := by
  intro w hg
  rw [m_primary_Next] at hm
  refine GS.start (S := mayT [] [.rd a0_3_o 7 [], .rd a0_4_o 5 [], .rd a0_5_o 4 []]) (mem := [(1, .rd a0_3_o 7 []), (2, .rd a0_4_o 5 []), (3, .rd a0_5_o 4 [])]) Tryz.func13 rfl Tryz.ntmps13 (Nat.le_of_ble_eq_true rfl) (hg.start rfl) ?_
  refine GS.conv (env' := [(0, .agg ((kc16 a0_3_o a0_3_c a0_4_o a0_4_c a0_5_o a0_5_c)).toArray), (1, .int .i64 3)]) rfl rfl ?_
  refine GS.seq ?_
  refine GS.region (env' := fun fr1 => [(1, .int .i64 3), (2, .pointer (some ⟨(fr1 0).x, 0, none⟩)), (4, .pointer (some ⟨(fr1 1).x, 0, none⟩))]) (mem' := fun fr1 => [(1, .rd a0_3_o 7 []), (2, .rd a0_4_o 5 []), (3, .rd a0_5_o 4 []), (4, .cells ((fr1 0).x) 28 (kc16 a0_3_o a0_3_c a0_4_o a0_4_c a0_5_o a0_5_c)), (5, .cells ((fr1 1).x) 23 [.int .i64 0, .int .i64 0])]) (RunsTo.mk [(0, { act := .new .var, key := some 4 }), (1, { act := .new .var, key := some 5 })] [1, 2, 4] [1, 2, 3, 4, 5] (fun fr1 => []) (fun fr1 => by kernel_rfl) (fun fr1 => trivial)) ?_
  intro fr1
  refine GS.seq ?_
  refine bnd_elim hm (fun y3 e4 hm => ?_)
  refine GS.region (env' := fun _ => [(4, .pointer (some ⟨(fr1 1).x, 0, none⟩))]) (mem' := fun _ => [(5, .cells ((fr1 1).x) 23 [.int .i64 3, .int .i64 1])]) (RunsTo.mk [(1, { act := .load 4 0 0 [] }), (2, { act := .call [1, 2, 3] (.agg #[.int .i64 0, .int .i64 0]) }), (6, { act := .store 0 0 [], key := some 5 })] [4] [5] (fun _ => [(fr1 0).x = (fr1 0).x, CallOK Tryz.prog 30 #[.agg ((kc16 a0_3_o a0_3_c a0_4_o a0_4_c a0_5_o a0_5_c)).toArray] (.agg #[.int .i64 0, .int .i64 0]) [some (.rd a0_3_o 7 []), some (.rd a0_4_o 5 []), some (.rd a0_5_o 4 [])], (fr1 1).x = (fr1 1).x, ((.agg #[.int .i64 3, .int .i64 1]) : Value).cells.toList.all Value.oneCell' = true]) (fun _ => by kernel_rfl) (fun _ => ⟨rfl, (by have h1 := w_pglog_Head F a0_3_o a0_3_c a0_4_o a0_4_c a0_5_o a0_5_c e4; exact h1.ok ⟨(.inl ⟨.rd a0_3_o 7 [], .head _, Cov.refl _⟩), (.inl ⟨.rd a0_4_o 5 [], (.tail _ (.head _)), Cov.refl _⟩), (.inl ⟨.rd a0_5_o 4 [], (.tail _ (.tail _ (.head _))), Cov.refl _⟩), trivial⟩), rfl, rfl, trivial⟩)) ?_
  intro _
  have hy := Option.some.inj hm
  subst hy
  refine GS.ret (fn := Tryz.f13) [5] [.agg #[.int .i64 3, .int .i64 1]] [(fr1 1).x = (fr1 1).x] rfl Tryz.func13 (by kernel_rfl) ⟨rfl, trivial⟩ (fun w' hs => ?_)
  exact ⟨(), rfl, hs.turnedG (ks := []) rfl rfl⟩

theorem w_slices_Clone___int_int_ (F : Nat) (a0_o : Option Addr) (a0_c : Nat) {y : Unit} (hm : m_slices_Clone___int_int_ F = some y) : CallG Tryz.prog 50 #[.slice a0_o 1 a0_c] (X := Option Addr × Nat) (fun ⟨x0, x1⟩ => .slice x0 1 x1) [] [.rd a0_o 1 [[.int .i64 1]]] (fun ⟨x0, x1⟩ => [.osl x0 x1 3 1 [[.int .i64 1]]]) := by
  intro w hg
  rw [m_slices_Clone___int_int_] at hm
  refine GS.start (S := mayT [] [.rd a0_o 1 [[.int .i64 1]]]) (mem := [(1, .rd a0_o 1 [[.int .i64 1]])]) Tryz.func50 rfl Tryz.ntmps50 (Nat.le_of_ble_eq_true rfl) (hg.start rfl) ?_
  refine GS.conv (env' := [(0, .slice a0_o 1 a0_c)]) rfl rfl ?_
  refine GS.seq ?_
  refine GS.region (env' := fun _ => [(0, .slice a0_o 1 a0_c)]) (mem' := fun _ => [(1, .rd a0_o 1 [[.int .i64 1]])]) (RunsTo.mk [] [0] [1] (fun _ => []) (fun _ => by kernel_rfl) (fun _ => trivial)) ?_
  intro _
  refine GS.seq ?_
  refine GS.seq ?_
  refine GS.know (p := a0_o.isNone = false) (fun w hw => ne_rd (hw.ok 1 _ rfl)) (fun k2 => ?_)
  refine GS.region (env' := fun _ => [(0, .slice a0_o 1 a0_c), (4, .bool false)]) (mem' := fun _ => [(1, .rd a0_o 1 [[.int .i64 1]])]) (RunsTo.mk [(1, { act := .nilq, sp := some (.bool false) })] [0, 4] [1] (fun _ => [((.bool a0_o.isNone : Value)) = .bool false]) (fun _ => by kernel_rfl) (fun _ => ⟨(bool_eq k2), trivial⟩)) ?_
  intro _
  refine GS.cond (t := false) rfl rfl (fun hf => by cases hf) (fun _ => ?_)
  refine GS.skip ?_
  refine GS.seq ?_
  refine GS.region (env' := fun fr4 => [(2, .slice ((fr4 2).ob) 1 ((fr4 2).cap))]) (mem' := fun fr4 => [(2, .osl ((fr4 2).ob) ((fr4 2).cap) 3 1 (([] : List (List Value)) ++ ([[.int .i64 1]] : List (List Value))))]) (RunsTo.mk [(0, { act := .new (.row 0 1), key := some 2 }), (2, { act := .app (some 1), key := some 2, spf := some (fun f => .slice (f.ob) 1 (f.cap)) })] [2] [2] (fun fr4 => [a0_o = a0_o, 1 = ([[.int .i64 1]] : List (List Value)).length, (some (Addr.mk (fr4 0).x 0 none)) = (some (Addr.mk (fr4 0).x 0 none)), 0 = 0, 0 = ([] : List (List Value)).length, (([] : List (List Value)).length + ([[.int .i64 1]] : List (List Value)).length) * (8 + 1) ≤ 70368744177664, ([[.int .i64 1]] : List (List Value)).flatten.all Value.oneCell' = true, ((.slice ((fr4 2).ob) (0 + ([[.int .i64 1]] : List (List Value)).length) ((fr4 2).cap)) : Value) = .slice ((fr4 2).ob) 1 ((fr4 2).cap)]) (fun fr4 => by kernel_rfl) (fun fr4 => ⟨rfl, rfl, rfl, rfl, rfl, (show (0 + 1) * (8 + 1) ≤ 70368744177664 by decide), rfl, rfl, trivial⟩)) ?_
  intro fr4
  refine GS.conv (mem' := [(2, .osl ((fr4 2).ob) ((fr4 2).cap) 3 1 [[.int .i64 1]])]) rfl (congrArg (fun rr : List (List Value) => ([(2, .osl ((fr4 2).ob) ((fr4 2).cap) 3 1 rr)] : List (Nat × Ent))) (show ([] : List (List Value)) ++ ([[.int .i64 1]] : List (List Value)) = ([[.int .i64 1]] : List (List Value)) from rfl)) ?_
  have hy := Option.some.inj hm
  subst hy
  refine GS.ret (fn := Tryz.f50) [0] [.slice ((fr4 2).ob) 1 ((fr4 2).cap)] [] rfl Tryz.func50 (by kernel_rfl) trivial (fun w' hs => ?_)
  exact ⟨⟨(fr4 2).ob, (fr4 2).cap⟩, rfl, hs.turnedG (ks := [2]) rfl rfl⟩

theorem w_digest_New (F : Nat) {y : Unit} (hm : m_digest_New F = some y) : CallG Tryz.prog 88 #[] (X := Nat) (fun (x0 : Nat) => .pointer (some ⟨x0, 0, none⟩)) [] [] (fun (x0 : Nat) => [.cells x0 190 (([.int .u32 0, .int .i32 0, .int .u32 0] : List Value) ++ (aU32 (List.replicate 256 0) ++ (([.int .i64 0] : List Value))))]) := by
  intro w hg
  rw [m_digest_New] at hm
  refine GS.start (S := mayT [] []) (mem := []) Tryz.func88 rfl Tryz.ntmps88 (Nat.le_of_ble_eq_true rfl) (hg.start rfl) ?_
  refine GS.conv (env' := []) rfl rfl ?_
  refine GS.seq ?_
  refine GS.region (env' := fun _ => []) (mem' := fun _ => []) (RunsTo.mk [] [] [] (fun _ => []) (fun _ => by kernel_rfl) (fun _ => trivial)) ?_
  intro _
  refine GS.seq ?_
  refine GS.region (env' := fun fr2 => [(0, .pointer (some ⟨(fr2 1).x, 0, none⟩))]) (mem' := fun fr2 => [(1, .cells ((fr2 1).x) 190 (([.int .u32 0, .int .i32 0, .int .u32 0] : List Value) ++ (aU32 (List.replicate 256 0) ++ (([.int .i64 0] : List Value)))))]) (RunsTo.mk [(1, { act := .new .var, key := some 1 })] [0] [1] (fun fr2 => []) (fun fr2 => by kernel_rfl) (fun fr2 => trivial)) ?_
  intro fr2
  have hy := Option.some.inj hm
  subst hy
  refine GS.ret (fn := Tryz.f88) [0] [.pointer (some ⟨(fr2 1).x, 0, none⟩)] [] rfl Tryz.func88 (by kernel_rfl) trivial (fun w' hs => ?_)
  exact ⟨((fr2 1).x), rfl, hs.turnedG (ks := [1]) rfl rfl⟩

theorem w___digest_Engine__make (F : Nat) (a0b : Nat) (a0 : S_digest_Engine) {y : S_digest_Engine} (hm : m___digest_Engine__make F a0 = some y) : CallG Tryz.prog 111 #[.pointer (some ⟨a0b, 0, none⟩)] (X := Unit) (fun (_ : Unit) => .tuple #[]) [.cells a0b 190 (([.int .u32 a0.once.done.v, .int .i32 a0.once.m.mu.state, .int .u32 a0.once.m.mu.sema] : List Value) ++ (aU32 a0.table ++ (([.int .i64 a0.calls.v] : List Value))))] [] (fun (_ : Unit) => [.cells a0b 190 (([.int .u32 y.once.done.v, .int .i32 y.once.m.mu.state, .int .u32 y.once.m.mu.sema] : List Value) ++ (aU32 y.table ++ (([.int .i64 y.calls.v] : List Value))))]) := by
  intro w hg
  rw [m___digest_Engine__make] at hm
  refine GS.start (S := mayT [.cells a0b 190 (([.int .u32 a0.once.done.v, .int .i32 a0.once.m.mu.state, .int .u32 a0.once.m.mu.sema] : List Value) ++ (aU32 a0.table ++ (([.int .i64 a0.calls.v] : List Value))))] []) (mem := [(1, .cells a0b 190 (([.int .u32 a0.once.done.v, .int .i32 a0.once.m.mu.state, .int .u32 a0.once.m.mu.sema] : List Value) ++ (aU32 a0.table ++ (([.int .i64 a0.calls.v] : List Value)))))]) Tryz.func111 rfl Tryz.ntmps111 (Nat.le_of_ble_eq_true rfl) (hg.start rfl) ?_
  refine GS.conv (env' := [(0, .pointer (some ⟨a0b, 0, none⟩))]) rfl rfl ?_
  refine GS.seq ?_
  refine GS.region (env' := fun _ => [(0, .pointer (some ⟨a0b, 0, none⟩)), (4, .int .i64 0)]) (mem' := fun _ => [(1, .cells a0b 190 (([.int .u32 a0.once.done.v, .int .i32 a0.once.m.mu.state, .int .u32 a0.once.m.mu.sema] : List Value) ++ (aU32 a0.table ++ (([.int .i64 a0.calls.v] : List Value)))))]) (RunsTo.mk [] [0, 4] [1] (fun _ => []) (fun _ => by kernel_rfl) (fun _ => trivial)) ?_
  intro _
  refine GS.block ?_
  refine GS.loop ?_
  refine grd_elim hm (fun g100 hm => ?_)
  refine GS.rekey (env' := [(0, .pointer (some ⟨a0b, 0, none⟩)), (4, .int .i64 0)]) (mem' := [(1, .cells a0b 190 (([.int .u32 a0.once.done.v, .int .i32 a0.once.m.mu.state, .int .u32 a0.once.m.mu.sema] : List Value) ++ (aU32 a0.table ++ (([.int .i64 a0.calls.v] : List Value)))))]) [0, 4] [(1, 1)] (by kernel_rfl) (by kernel_rfl) rfl ?_
  refine loopC_elim hm (fun st169 fn170 hst171 hfn172 hm => ?_)
  refine GS.loopInv (ι := Nat × Nat × List Int) (I := fun ⟨rs167, v4_1, c1_3_1⟩ => ((256) - ((v4_1 : Nat) : Int) : Int).toNat = rs167 ∧ loopC st169 fn170 rs167 v4_1 c1_3_1 = some y) (μ := fun ⟨rs167, v4_1, c1_3_1⟩ => rs167) (E := fun ⟨rs167, v4_1, c1_3_1⟩ => [(0, .pointer (some ⟨a0b, 0, none⟩)), (4, .int .i64 ((v4_1 : Nat) : Int))]) (M := fun ⟨rs167, v4_1, c1_3_1⟩ => [(1, .cells a0b 190 (([.int .u32 a0.once.done.v, .int .i32 a0.once.m.mu.state, .int .u32 a0.once.m.mu.sema] : List Value) ++ (aU32 c1_3_1 ++ (([.int .i64 a0.calls.v] : List Value)))))]) ?_ ⟨(Int.toNat (256 - ((0 : Nat) : Int))), 0, a0.table⟩ ⟨rfl, hm⟩
  rintro ⟨rs167, v4_1, c1_3_1⟩ ⟨hd99, hm⟩ ih168
  cases rs167 with
  | zero =>
    replace hm := (hfn172 _ _).symm.trans hm
    try dsimp only at hm
    refine GS.seq ?_
    refine GS.region (env' := fun _ => [(0, .pointer (some ⟨a0b, 0, none⟩)), (4, .int .i64 ((v4_1 : Nat) : Int)), (5, .bool (decide (((v4_1 : Nat) : Int) < 256)))]) (mem' := fun _ => [(1, .cells a0b 190 (([.int .u32 a0.once.done.v, .int .i32 a0.once.m.mu.state, .int .u32 a0.once.m.mu.sema] : List Value) ++ (aU32 c1_3_1 ++ (([.int .i64 a0.calls.v] : List Value)))))]) (RunsTo.mk [] [0, 4, 5] [1] (fun _ => []) (fun _ => by kernel_rfl) (fun _ => trivial)) ?_
    intro _
    refine GS.seq ?_
    refine GS.cond (t := decide (((v4_1 : Nat) : Int) < 256)) rfl rfl (fun h165 => absb h165 (cnt0 hd99)) (fun _ => ?_)
    refine GS.exit rfl ?_
    have hy := Option.some.inj hm
    subst hy
    refine GS.end_ (fn := Tryz.f111) [] [] [] rfl Tryz.func111 (by kernel_rfl) trivial (fun w' hs => ?_)
    exact ⟨(), rfl, hs.turnedG (ks := [1]) rfl rfl⟩
  | succ rs167 =>
    replace hm := (hst171 _ _ _).symm.trans hm
    try dsimp only at hm
    refine GS.seq ?_
    refine GS.region (env' := fun _ => [(0, .pointer (some ⟨a0b, 0, none⟩)), (4, .int .i64 ((v4_1 : Nat) : Int)), (5, .bool (decide (((v4_1 : Nat) : Int) < 256)))]) (mem' := fun _ => [(1, .cells a0b 190 (([.int .u32 a0.once.done.v, .int .i32 a0.once.m.mu.state, .int .u32 a0.once.m.mu.sema] : List Value) ++ (aU32 c1_3_1 ++ (([.int .i64 a0.calls.v] : List Value)))))]) (RunsTo.mk [] [0, 4, 5] [1] (fun _ => []) (fun _ => by kernel_rfl) (fun _ => trivial)) ?_
    intro _
    refine GS.seq ?_
    refine GS.cond (t := decide (((v4_1 : Nat) : Int) < 256)) rfl rfl (fun _ => ?_) (fun h102 => absb (cnt1 hd99) h102)
    refine GS.skip ?_
    refine GS.seq ?_
    refine GS.block ?_
    refine GS.seq ?_
    refine GS.region (env' := fun _ => [(0, .pointer (some ⟨a0b, 0, none⟩)), (2, .int .i64 ((v4_1 : Nat) : Int)), (4, .int .i64 ((v4_1 : Nat) : Int))]) (mem' := fun _ => [(1, .cells a0b 190 (([.int .u32 a0.once.done.v, .int .i32 a0.once.m.mu.state, .int .u32 a0.once.m.mu.sema] : List Value) ++ (aU32 c1_3_1 ++ (([.int .i64 a0.calls.v] : List Value)))))]) (RunsTo.mk [] [0, 2, 4] [1] (fun _ => []) (fun _ => by kernel_rfl) (fun _ => trivial)) ?_
    intro _
    refine GS.seq ?_
    refine GS.region (env' := fun _ => [(0, .pointer (some ⟨a0b, 0, none⟩)), (2, .int .i64 ((v4_1 : Nat) : Int)), (3, .int .u32 (IntKind.u32.wrap ((v4_1 : Nat) : Int))), (4, .int .i64 ((v4_1 : Nat) : Int))]) (mem' := fun _ => [(1, .cells a0b 190 (([.int .u32 a0.once.done.v, .int .i32 a0.once.m.mu.state, .int .u32 a0.once.m.mu.sema] : List Value) ++ (aU32 c1_3_1 ++ (([.int .i64 a0.calls.v] : List Value)))))]) (RunsTo.mk [] [0, 2, 3, 4] [1] (fun _ => []) (fun _ => by kernel_rfl) (fun _ => trivial)) ?_
    intro _
    refine GS.seq ?_
    refine GS.seq ?_
    refine GS.region (env' := fun _ => [(0, .pointer (some ⟨a0b, 0, none⟩)), (2, .int .i64 ((v4_1 : Nat) : Int)), (3, .int .u32 (IntKind.u32.wrap ((v4_1 : Nat) : Int))), (4, .int .i64 ((v4_1 : Nat) : Int)), (9, .int .i64 0)]) (mem' := fun _ => [(1, .cells a0b 190 (([.int .u32 a0.once.done.v, .int .i32 a0.once.m.mu.state, .int .u32 a0.once.m.mu.sema] : List Value) ++ (aU32 c1_3_1 ++ (([.int .i64 a0.calls.v] : List Value)))))]) (RunsTo.mk [] [0, 2, 3, 4, 9] [1] (fun _ => []) (fun _ => by kernel_rfl) (fun _ => trivial)) ?_
    intro _
    refine GS.block ?_
    refine GS.loop ?_
    refine grd_elim hm (fun g135 hm => ?_)
    refine GS.rekey (env' := [(0, .pointer (some ⟨a0b, 0, none⟩)), (2, .int .i64 ((v4_1 : Nat) : Int)), (3, .int .u32 (IntKind.u32.wrap ((v4_1 : Nat) : Int))), (4, .int .i64 ((v4_1 : Nat) : Int)), (9, .int .i64 0)]) (mem' := [(1, .cells a0b 190 (([.int .u32 a0.once.done.v, .int .i32 a0.once.m.mu.state, .int .u32 a0.once.m.mu.sema] : List Value) ++ (aU32 c1_3_1 ++ (([.int .i64 a0.calls.v] : List Value)))))]) [0, 2, 3, 4, 9] [(1, 1)] (by kernel_rfl) (by kernel_rfl) rfl ?_
    refine loopC_elim hm (fun st156 fn157 hst158 hfn159 hm => ?_)
    refine GS.loopInv (ι := Nat × Int × Nat) (I := fun ⟨rs154, v3_10, v9_10⟩ => ((8) - ((v9_10 : Nat) : Int) : Int).toNat = rs154 ∧ loopC st156 fn157 rs154 v9_10 v3_10 = some y) (μ := fun ⟨rs154, v3_10, v9_10⟩ => rs154) (E := fun ⟨rs154, v3_10, v9_10⟩ => [(0, .pointer (some ⟨a0b, 0, none⟩)), (2, .int .i64 ((v4_1 : Nat) : Int)), (3, .int .u32 v3_10), (4, .int .i64 ((v4_1 : Nat) : Int)), (9, .int .i64 ((v9_10 : Nat) : Int))]) (M := fun ⟨rs154, v3_10, v9_10⟩ => [(1, .cells a0b 190 (([.int .u32 a0.once.done.v, .int .i32 a0.once.m.mu.state, .int .u32 a0.once.m.mu.sema] : List Value) ++ (aU32 c1_3_1 ++ (([.int .i64 a0.calls.v] : List Value)))))]) ?_ ⟨(Int.toNat (8 - ((0 : Nat) : Int))), (IntKind.u32.wrap ((v4_1 : Nat) : Int)), 0⟩ ⟨rfl, hm⟩
    rintro ⟨rs154, v3_10, v9_10⟩ ⟨hd134, hm⟩ ih155
    cases rs154 with
    | zero =>
      replace hm := (hfn159 _ _).symm.trans hm
      try dsimp only at hm
      refine GS.seq ?_
      refine GS.region (env' := fun _ => [(0, .pointer (some ⟨a0b, 0, none⟩)), (2, .int .i64 ((v4_1 : Nat) : Int)), (3, .int .u32 v3_10), (4, .int .i64 ((v4_1 : Nat) : Int)), (9, .int .i64 ((v9_10 : Nat) : Int)), (10, .bool (decide (((v9_10 : Nat) : Int) < 8)))]) (mem' := fun _ => [(1, .cells a0b 190 (([.int .u32 a0.once.done.v, .int .i32 a0.once.m.mu.state, .int .u32 a0.once.m.mu.sema] : List Value) ++ (aU32 c1_3_1 ++ (([.int .i64 a0.calls.v] : List Value)))))]) (RunsTo.mk [] [0, 2, 3, 4, 9, 10] [1] (fun _ => []) (fun _ => by kernel_rfl) (fun _ => trivial)) ?_
      intro _
      refine GS.seq ?_
      refine GS.cond (t := decide (((v9_10 : Nat) : Int) < 8)) rfl rfl (fun h152 => absb h152 (cnt0 hd134)) (fun _ => ?_)
      refine GS.exit rfl ?_
      refine grd_elim hm (fun g161 hm => ?_)
      refine grd_elim hm (fun g162 hm => ?_)
      refine GS.region (env' := fun _ => [(0, .pointer (some ⟨a0b, 0, none⟩)), (4, .int .i64 ((v4_1 : Nat) : Int))]) (mem' := fun _ => [(1, .cells a0b 190 (splice (([.int .u32 a0.once.done.v, .int .i32 a0.once.m.mu.state, .int .u32 a0.once.m.mu.sema] : List Value) ++ (aU32 c1_3_1 ++ (([.int .i64 a0.calls.v] : List Value)))) (3 + v4_1 * 1) ((.int .u32 v3_10) : Value).cells.toList))]) (RunsTo.mk [(5, { act := .arr v4_1 }), (6, { act := .storeC, key := some 1 })] [0, 4] [1] (fun _ => [(((v4_1 : Nat) : Int) : Int) = ((v4_1 : Nat) : Int), v4_1 < 256, a0b = a0b, ((.int .u32 v3_10) : Value).cells.toList.length = 1, 3 + v4_1 * 1 + 1 ≤ (([.int .u32 a0.once.done.v, .int .i32 a0.once.m.mu.state, .int .u32 a0.once.m.mu.sema] : List Value) ++ (aU32 c1_3_1 ++ (([.int .i64 a0.calls.v] : List Value)))).length, ((.int .u32 v3_10) : Value).cells.toList.all Value.oneCell' = true]) (fun _ => by kernel_rfl) (fun _ => ⟨rfl, g161, rfl, rfl, (by have hh := g162; first | simp [aU32_len]; omega), rfl, trivial⟩)) ?_
      intro _
      refine GS.conv (mem' := [(1, .cells a0b 190 (([.int .u32 a0.once.done.v, .int .i32 a0.once.m.mu.state, .int .u32 a0.once.m.mu.sema] : List Value) ++ (aU32 (c1_3_1.set v4_1 v3_10) ++ (([.int .i64 a0.calls.v] : List Value)))))]) rfl (congrArg (fun rr : List Value => ([(1, .cells a0b 190 rr)] : List (Nat × Ent))) (show (splice (([.int .u32 a0.once.done.v, .int .i32 a0.once.m.mu.state, .int .u32 a0.once.m.mu.sema] : List Value) ++ (aU32 c1_3_1 ++ (([.int .i64 a0.calls.v] : List Value)))) (3 + v4_1 * 1) ((.int .u32 v3_10) : Value).cells.toList : List Value) = ([.int .u32 a0.once.done.v, .int .i32 a0.once.m.mu.state, .int .u32 a0.once.m.mu.sema] : List Value) ++ (aU32 (c1_3_1.set v4_1 v3_10) ++ (([.int .i64 a0.calls.v] : List Value))) from splice_aU322 (pre := ([.int .u32 a0.once.done.v, .int .i32 a0.once.m.mu.state, .int .u32 a0.once.m.mu.sema] : List Value)) (m := 3) rfl g162 (by omega))) ?_
      refine GS.inBlock ?_
      refine GS.region (env' := fun _ => [(0, .pointer (some ⟨a0b, 0, none⟩)), (4, .int .i64 ((v4_1 + 1 : Nat) : Int))]) (mem' := fun _ => [(1, .cells a0b 190 (([.int .u32 a0.once.done.v, .int .i32 a0.once.m.mu.state, .int .u32 a0.once.m.mu.sema] : List Value) ++ (aU32 (c1_3_1.set v4_1 v3_10) ++ (([.int .i64 a0.calls.v] : List Value)))))]) (RunsTo.mk [(0, { sp := some (.int .i64 ((v4_1 + 1 : Nat) : Int)) })] [0, 4] [1] (fun _ => [((.int .i64 (IntKind.i64.wrap (((v4_1 : Nat) : Int) + 1))) : Value) = .int .i64 ((v4_1 + 1 : Nat) : Int)]) (fun _ => by kernel_rfl) (fun _ => ⟨natwB (cnt1 hd99) g100, trivial⟩)) ?_
      intro _
      refine GS.inLoop ?_
      refine GS.rekey (env' := [(0, .pointer (some ⟨a0b, 0, none⟩)), (4, .int .i64 ((v4_1 + 1 : Nat) : Int))]) (mem' := [(1, .cells a0b 190 (([.int .u32 a0.once.done.v, .int .i32 a0.once.m.mu.state, .int .u32 a0.once.m.mu.sema] : List Value) ++ (aU32 (c1_3_1.set v4_1 v3_10) ++ (([.int .i64 a0.calls.v] : List Value)))))]) [0, 4] [(1, 1)] (by kernel_rfl) (by kernel_rfl) rfl ?_
      exact ih168 ⟨rs167, v4_1 + 1, (c1_3_1.set v4_1 v3_10)⟩ ⟨cntN hd99, hm⟩ (Nat.lt_succ_self _)
    | succ rs154 =>
      replace hm := (hst158 _ _ _).symm.trans hm
      try dsimp only at hm
      refine GS.seq ?_
      refine GS.region (env' := fun _ => [(0, .pointer (some ⟨a0b, 0, none⟩)), (2, .int .i64 ((v4_1 : Nat) : Int)), (3, .int .u32 v3_10), (4, .int .i64 ((v4_1 : Nat) : Int)), (9, .int .i64 ((v9_10 : Nat) : Int)), (10, .bool (decide (((v9_10 : Nat) : Int) < 8)))]) (mem' := fun _ => [(1, .cells a0b 190 (([.int .u32 a0.once.done.v, .int .i32 a0.once.m.mu.state, .int .u32 a0.once.m.mu.sema] : List Value) ++ (aU32 c1_3_1 ++ (([.int .i64 a0.calls.v] : List Value)))))]) (RunsTo.mk [] [0, 2, 3, 4, 9, 10] [1] (fun _ => []) (fun _ => by kernel_rfl) (fun _ => trivial)) ?_
      intro _
      refine GS.seq ?_
      refine GS.cond (t := decide (((v9_10 : Nat) : Int) < 8)) rfl rfl (fun _ => ?_) (fun h137 => absb (cnt1 hd134) h137)
      refine GS.skip ?_
      refine GS.seq ?_
      refine GS.block ?_
      refine GS.seq ?_
      refine GS.region (env' := fun _ => [(0, .pointer (some ⟨a0b, 0, none⟩)), (2, .int .i64 ((v4_1 : Nat) : Int)), (3, .int .u32 v3_10), (4, .int .i64 ((v4_1 : Nat) : Int)), (9, .int .i64 ((v9_10 : Nat) : Int)), (13, .bool ((iand .u32 v3_10 1) == 1))]) (mem' := fun _ => [(1, .cells a0b 190 (([.int .u32 a0.once.done.v, .int .i32 a0.once.m.mu.state, .int .u32 a0.once.m.mu.sema] : List Value) ++ (aU32 c1_3_1 ++ (([.int .i64 a0.calls.v] : List Value)))))]) (RunsTo.mk [] [0, 2, 3, 4, 9, 13] [1] (fun _ => []) (fun _ => by kernel_rfl) (fun _ => trivial)) ?_
      intro _
      refine GS.cond (t := (iand .u32 v3_10 1) == 1) rfl rfl (fun h139 => ?_) (fun h139 => ?_)
      · replace hm := br_t h139 hm
        refine GS.region (env' := fun _ => [(0, .pointer (some ⟨a0b, 0, none⟩)), (2, .int .i64 ((v4_1 : Nat) : Int)), (3, .int .u32 (ixor .u32 (Int.fdiv v3_10 (2 ^ 1)) 2197175160)), (4, .int .i64 ((v4_1 : Nat) : Int)), (9, .int .i64 ((v9_10 : Nat) : Int))]) (mem' := fun _ => [(1, .cells a0b 190 (([.int .u32 a0.once.done.v, .int .i32 a0.once.m.mu.state, .int .u32 a0.once.m.mu.sema] : List Value) ++ (aU32 c1_3_1 ++ (([.int .i64 a0.calls.v] : List Value)))))]) (RunsTo.mk [] [0, 2, 3, 4, 9] [1] (fun _ => []) (fun _ => by kernel_rfl) (fun _ => trivial)) ?_
        intro _
        refine GS.inBlock ?_
        refine GS.region (env' := fun _ => [(0, .pointer (some ⟨a0b, 0, none⟩)), (2, .int .i64 ((v4_1 : Nat) : Int)), (3, .int .u32 (ixor .u32 (Int.fdiv v3_10 (2 ^ 1)) 2197175160)), (4, .int .i64 ((v4_1 : Nat) : Int)), (9, .int .i64 ((v9_10 + 1 : Nat) : Int))]) (mem' := fun _ => [(1, .cells a0b 190 (([.int .u32 a0.once.done.v, .int .i32 a0.once.m.mu.state, .int .u32 a0.once.m.mu.sema] : List Value) ++ (aU32 c1_3_1 ++ (([.int .i64 a0.calls.v] : List Value)))))]) (RunsTo.mk [(0, { sp := some (.int .i64 ((v9_10 + 1 : Nat) : Int)) })] [0, 2, 3, 4, 9] [1] (fun _ => [((.int .i64 (IntKind.i64.wrap (((v9_10 : Nat) : Int) + 1))) : Value) = .int .i64 ((v9_10 + 1 : Nat) : Int)]) (fun _ => by kernel_rfl) (fun _ => ⟨natwB (cnt1 hd134) g135, trivial⟩)) ?_
        intro _
        refine GS.inLoop ?_
        refine GS.rekey (env' := [(0, .pointer (some ⟨a0b, 0, none⟩)), (2, .int .i64 ((v4_1 : Nat) : Int)), (3, .int .u32 (ixor .u32 (Int.fdiv v3_10 (2 ^ 1)) 2197175160)), (4, .int .i64 ((v4_1 : Nat) : Int)), (9, .int .i64 ((v9_10 + 1 : Nat) : Int))]) (mem' := [(1, .cells a0b 190 (([.int .u32 a0.once.done.v, .int .i32 a0.once.m.mu.state, .int .u32 a0.once.m.mu.sema] : List Value) ++ (aU32 c1_3_1 ++ (([.int .i64 a0.calls.v] : List Value)))))]) [0, 2, 3, 4, 9] [(1, 1)] (by kernel_rfl) (by kernel_rfl) rfl ?_
        exact ih155 ⟨rs154, (ixor .u32 (Int.fdiv v3_10 (2 ^ 1)) 2197175160), v9_10 + 1⟩ ⟨cntN hd134, hm⟩ (Nat.lt_succ_self _)
      · replace hm := br_f h139 hm
        refine GS.region (env' := fun _ => [(0, .pointer (some ⟨a0b, 0, none⟩)), (2, .int .i64 ((v4_1 : Nat) : Int)), (3, .int .u32 (Int.fdiv v3_10 (2 ^ 1))), (4, .int .i64 ((v4_1 : Nat) : Int)), (9, .int .i64 ((v9_10 : Nat) : Int))]) (mem' := fun _ => [(1, .cells a0b 190 (([.int .u32 a0.once.done.v, .int .i32 a0.once.m.mu.state, .int .u32 a0.once.m.mu.sema] : List Value) ++ (aU32 c1_3_1 ++ (([.int .i64 a0.calls.v] : List Value)))))]) (RunsTo.mk [] [0, 2, 3, 4, 9] [1] (fun _ => []) (fun _ => by kernel_rfl) (fun _ => trivial)) ?_
        intro _
        refine GS.inBlock ?_
        refine GS.region (env' := fun _ => [(0, .pointer (some ⟨a0b, 0, none⟩)), (2, .int .i64 ((v4_1 : Nat) : Int)), (3, .int .u32 (Int.fdiv v3_10 (2 ^ 1))), (4, .int .i64 ((v4_1 : Nat) : Int)), (9, .int .i64 ((v9_10 + 1 : Nat) : Int))]) (mem' := fun _ => [(1, .cells a0b 190 (([.int .u32 a0.once.done.v, .int .i32 a0.once.m.mu.state, .int .u32 a0.once.m.mu.sema] : List Value) ++ (aU32 c1_3_1 ++ (([.int .i64 a0.calls.v] : List Value)))))]) (RunsTo.mk [(0, { sp := some (.int .i64 ((v9_10 + 1 : Nat) : Int)) })] [0, 2, 3, 4, 9] [1] (fun _ => [((.int .i64 (IntKind.i64.wrap (((v9_10 : Nat) : Int) + 1))) : Value) = .int .i64 ((v9_10 + 1 : Nat) : Int)]) (fun _ => by kernel_rfl) (fun _ => ⟨natwB (cnt1 hd134) g135, trivial⟩)) ?_
        intro _
        refine GS.inLoop ?_
        refine GS.rekey (env' := [(0, .pointer (some ⟨a0b, 0, none⟩)), (2, .int .i64 ((v4_1 : Nat) : Int)), (3, .int .u32 (Int.fdiv v3_10 (2 ^ 1))), (4, .int .i64 ((v4_1 : Nat) : Int)), (9, .int .i64 ((v9_10 + 1 : Nat) : Int))]) (mem' := [(1, .cells a0b 190 (([.int .u32 a0.once.done.v, .int .i32 a0.once.m.mu.state, .int .u32 a0.once.m.mu.sema] : List Value) ++ (aU32 c1_3_1 ++ (([.int .i64 a0.calls.v] : List Value)))))]) [0, 2, 3, 4, 9] [(1, 1)] (by kernel_rfl) (by kernel_rfl) rfl ?_
        exact ih155 ⟨rs154, (Int.fdiv v3_10 (2 ^ 1)), v9_10 + 1⟩ ⟨cntN hd134, hm⟩ (Nat.lt_succ_self _)

theorem disable (w : World) : (callFunc 129 #[]).run Tryz.prog w = .ok (.value (.tuple #[])) w := run_call_mark0 Tryz.func129 (by kernel_rfl) (by kernel_rfl) (by kernel_rfl) .disable (by kernel_rfl) w
theorem enable (w : World) : (callFunc 131 #[]).run Tryz.prog w = .ok (.value (.tuple #[])) w := run_call_mark0 Tryz.func131 (by kernel_rfl) (by kernel_rfl) (by kernel_rfl) .enable (by kernel_rfl) w
theorem acquire (a : Addr) (w : World) : (callFunc 132 #[.pointer (some a)]).run Tryz.prog w = .ok (.value (.tuple #[])) w := run_call_marked Tryz.func132 (by kernel_rfl) (by kernel_rfl) (by kernel_rfl) .acquire (by kernel_rfl) a w
theorem releaseMerge (a : Addr) (w : World) : (callFunc 134 #[.pointer (some a)]).run Tryz.prog w = .ok (.value (.tuple #[])) w := run_call_marked Tryz.func134 (by kernel_rfl) (by kernel_rfl) (by kernel_rfl) .releaseMerge (by kernel_rfl) a w

theorem store_deferred (a : Addr) (x : Value) (u : FrameMode) (w : World) (hc : w.cell? a = some x) (hz : w.frozen? a = false) :
    CallsD Tryz.prog 124 #[.pointer (some a), .bool true] u w fun e u' w' => u' = u ∧ (e = .returned (.tuple #[]) ∧ w' = w.drew.setCell a (.int .u32 1)) := by
  have hc' : w.drew.cell? a = some x := by go_simp
  have hz' : w.drew.frozen? a = false := by go_simp
  have hst := run_call_store (P := Tryz.prog) Tryz.func127 (by kernel_rfl) (by kernel_rfl) (by kernel_rfl) (by kernel_rfl) (k := .u32) (y := 1) hc' hz'
  go_enter_d Tryz.func124, Tryz.ntmps124
  go_wp2
  go_region_calls
  all_goals (go_end0; exact ⟨rfl, rfl⟩)

theorem unlock_deferred (a : Addr) (u : FrameMode) (w : World) (hc : w.cell? a = some (.int .i32 1)) (hz : w.frozen? a = false) :
    CallsD Tryz.prog 123 #[.pointer (some a)] u w fun e u' w' => u' = u ∧ (e = .returned (.tuple #[]) ∧ w' = w.setCell a (.int .i32 0)) := by
  have hd := disable
  have he := enable
  have hr := releaseMerge
  have hadd := run_call_add (P := Tryz.prog) Tryz.func135 (by kernel_rfl) (by kernel_rfl) (by kernel_rfl) .i32 (by kernel_rfl) (y := -1) (s := 0) hc hz (by simp [go_sem]; rfl)
  have hcv := run_convert_to_unsafe (P := Tryz.prog) (src := 210) (dst := 214) Tryz.underlying210 Tryz.underlying214 (by kernel_rfl) hc
  go_enter_d Tryz.func123, Tryz.ntmps123
  go_wp2
  go_end0
  go_wp2
  go_end0
  exact ⟨rfl, rfl⟩

theorem lock_free (a : Addr) (w : World) (hc : w.cell? a = some (.int .i32 0)) (hz : w.frozen? a = false) :
    Calls Tryz.prog 122 #[.pointer (some a)] w fun e w' => e = .returned (.tuple #[]) ∧ w' = w.setCell a (.int .i32 1) := by
  have hd := disable
  have he := enable
  have ha := acquire
  have hcas := run_call_cas_hit (P := Tryz.prog) Tryz.func130 (by kernel_rfl) (by kernel_rfl) (by kernel_rfl) .i32 (by kernel_rfl) (y := 1) hc hz
  have hc' : (w.setCell a (.int .i32 1)).cell? a = some (.int .i32 1) := World.cell?_setCell_same w a _ hc
  have hcv := run_convert_to_unsafe (P := Tryz.prog) (src := 210) (dst := 214) Tryz.underlying210 Tryz.underlying214 (by kernel_rfl) hc'
  go_enter Tryz.func122, Tryz.ntmps122
  go_wp2
  first | go_end0 | (simp only [Exit.inBlock, Exit.then]; refine bodyPost_ret (results_none rfl _ _ _) rfl ?_) | refine bodyPost_ret (results_none rfl _ _ _) rfl ?_
  go_wp2
  go_end0
  exact ⟨rfl, rfl⟩

set_option maxRecDepth 100000 in
set_option maxHeartbeats 1600000 in
/-- '(*sync.Once).doSlow': the lock is taken, the function is called, 'done' is stored, the lock is let go. -/
theorem slow_any (b : Nat) (R : World → Prop) (w : World)
    (h0 : w.cell? ⟨b, 0, none⟩ = some (.int .u32 0)) (h1 : w.cell? ⟨b, 0 + 1, none⟩ = some (.int .i32 0)) (f0 : w.frozen? ⟨b, 0, none⟩ = false) (f1 : w.frozen? ⟨b, 0 + 1, none⟩ = false)
    (hf : Calls Tryz.prog 111 #[.pointer (some ⟨b, 0, none⟩)] (w.setCell ⟨b, 0 + 1, none⟩ (.int .i32 1)) fun e w' => e = .returned (.tuple #[]) ∧ R w')
    (hR : ∀ w', R w' → w'.cell? ⟨b, 0, none⟩ = some (.int .u32 0) ∧ w'.cell? ⟨b, 0 + 1, none⟩ = some (.int .i32 1) ∧ w'.frozen? ⟨b, 0, none⟩ = false ∧ w'.frozen? ⟨b, 0 + 1, none⟩ = false) :
    Calls Tryz.prog 120 #[.pointer (some ⟨b, 0, none⟩), .func (.func 111) #[.pointer (some ⟨b, 0, none⟩)] #[]] w fun e w' => e = .returned (.tuple #[]) ∧
      ∃ w1, R w1 ∧ w' = (w1.drew.setCell ⟨b, 0, none⟩ (.int .u32 1)).setCell ⟨b, 0 + 1, none⟩ (.int .i32 0) := by
  have hl := run_call_load (P := Tryz.prog) Tryz.func121 (by kernel_rfl) (by kernel_rfl) (by kernel_rfl) .u32 (by kernel_rfl) (w := w.setCell ⟨b, 0 + 1, none⟩ (.int .i32 1)) (a := ⟨b, 0, none⟩) (x := 0) ((World.cell?_setCell_other _ ⟨b, 0 + 1, none⟩ ⟨b, 0, none⟩ _ (by simp)).trans h0)
  have hnot : ∀ (x : Bool) (w : World), (Op.unary .not (.bool x)).run Tryz.prog w = .ok (.bool (!x)) w := fun _ _ => rfl
  go_enter_defers Tryz.func120, Tryz.ntmps120
  go_wp2_with (first | (go_at_call 122; refine (lock_free ⟨b, 0 + 1, none⟩ _ h1 f1).mono ?_; rintro e w' ⟨rfl, rfl⟩) | (go_at_call 111; refine hf.mono ?_; rintro e w1 ⟨rfl, hw1⟩; obtain ⟨r0, r1, z0, z1⟩ := hR _ hw1) | (go_at_call 119; go_in))
  go_wp2
  refine leaves_cons (f := 124) (args := #[.pointer (some ⟨b, 0, none⟩), .bool true]) (by simp) (by simp [go_sem]) ?_
  refine (store_deferred ⟨b, 0, none⟩ (.int .u32 0) .returning _ r0 z0).mono ?_
  rintro e u' w'' ⟨rfl, rfl, rfl⟩
  refine leaves_cons (f := 123) (args := #[.pointer (some ⟨b, 0 + 1, none⟩)]) (by simp [settle]) (by simp [go_sem]) ?_
  refine (unlock_deferred ⟨b, 0 + 1, none⟩ _ _ ?_ (by simp [z1])).mono ?_
  · refine (World.cell?_setCell_other _ ⟨b, 0, none⟩ ⟨b, 0 + 1, none⟩ _ (by simp)).trans ?_
    rw [World.cell?_drew]
    exact r1
  rintro e u' w'' ⟨rfl, rfl, rfl⟩
  simp [Leaves, settle, results, Tryz.results120]
  exact ⟨_, hw1, rfl⟩

set_option maxRecDepth 100000 in
set_option maxHeartbeats 1600000 in
theorem do_first (b : Nat) (R : World → Prop) (w : World)
    (h0 : w.cell? ⟨b, 0, none⟩ = some (.int .u32 0)) (h1 : w.cell? ⟨b, 0 + 1, none⟩ = some (.int .i32 0)) (f0 : w.frozen? ⟨b, 0, none⟩ = false) (f1 : w.frozen? ⟨b, 0 + 1, none⟩ = false)
    (hf : Calls Tryz.prog 111 #[.pointer (some ⟨b, 0, none⟩)] (w.setCell ⟨b, 0 + 1, none⟩ (.int .i32 1)) fun e w' => e = .returned (.tuple #[]) ∧ R w')
    (hR : ∀ w', R w' → w'.cell? ⟨b, 0, none⟩ = some (.int .u32 0) ∧ w'.cell? ⟨b, 0 + 1, none⟩ = some (.int .i32 1) ∧ w'.frozen? ⟨b, 0, none⟩ = false ∧ w'.frozen? ⟨b, 0 + 1, none⟩ = false) :
    Calls Tryz.prog 110 #[.pointer (some ⟨b, 0, none⟩), .func (.func 111) #[.pointer (some ⟨b, 0, none⟩)] #[]] w fun e w' => e = .returned (.tuple #[]) ∧
      ∃ w1, R w1 ∧ w' = (w1.drew.setCell ⟨b, 0, none⟩ (.int .u32 1)).setCell ⟨b, 0 + 1, none⟩ (.int .i32 0) := by
  have hl := run_call_load (P := Tryz.prog) Tryz.func121 (by kernel_rfl) (by kernel_rfl) (by kernel_rfl) .u32 (by kernel_rfl) h0
  have hnot : ∀ (x : Bool) (w : World), (Op.unary .not (.bool x)).run Tryz.prog w = .ok (.bool (!x)) w := fun _ _ => rfl
  go_enter Tryz.func110, Tryz.ntmps110
  go_wp2_with (first | (go_at_call 120; refine (slow_any b R _ h0 h1 f0 f1 hf hR).mono ?_; rintro e w' ⟨rfl, hw1⟩) | (go_at_call 119; go_in))
  go_end0
  exact ⟨rfl, hw1⟩

theorem do_done (a : Addr) (fv : Value) (w : World) (h0 : w.cell? a = some (.int .u32 1)) :
    Calls Tryz.prog 110 #[.pointer (some a), fv] w fun e w' => e = .returned (.tuple #[]) ∧ w' = w := by
  have hl := run_call_load (P := Tryz.prog) Tryz.func121 (by kernel_rfl) (by kernel_rfl) (by kernel_rfl) .u32 (by kernel_rfl) h0
  have hnot : ∀ (x : Bool) (w : World), (Op.unary .not (.bool x)).run Tryz.prog w = .ok (.bool (!x)) w := fun _ _ => rfl
  go_enter Tryz.func110, Tryz.ntmps110
  go_wp2
  go_end0
  exact ⟨rfl, rfl⟩

theorem do_ok (F : Nat) (b : Nat) (d st se : Int) (L : List Int) (c : Int) {y : List Int} (hm : m_once F d st se L c = some y) :
    CallG Tryz.prog 110 #[.pointer (some ⟨b, 0, none⟩), .func (.func 111) #[.pointer (some ⟨b, 0, none⟩)] #[]] (fun _ : Unit => .tuple #[]) [.cells b 190 (ecells d st se L c)] [] (fun _ : Unit => [.cells b 190 (ecells 1 0 se y c)]) := by
  intro w hg
  have hE := good_one hg
  rw [m_once] at hm
  refine grd_elim hm (fun hst hm => ?_)
  refine grd_elim hm (fun hL hm => ?_)
  refine br_elim hm (fun hd hm => ?_) (fun hd hm => ?_)
  · have hd := beq_iff_eq.1 hd
    have hy := Option.some.inj hm
    subst hy hd hst
    exact (do_done ⟨b, 0, none⟩ _ w (cells_cell hE 0)).mono fun e w' ⟨he, hw⟩ => ⟨(), he, by subst hw; exact turns_cells (Keep.refl _ _) hE⟩
  · refine grd_elim hm (fun hd0 hm => ?_)
    refine bnd_elim hm (fun z hz hm => ?_)
    refine grd_elim hm (fun hq hm => ?_)
    have hy := Option.some.inj hm
    subst hy hd0 hst
    obtain ⟨q1, q2, q3, q4, q5⟩ := hq
    have s1 := cells_set hE 1 (.int .i32 1)
    have e1 : (ecells 0 0 se L c).set 1 (.int .i32 1) = ecells 0 1 se L c := rfl
    rw [e1] at s1
    have hgood : GoodG [.cells b 190 (ecells 0 1 se L c)] [] (w.setCell ⟨b, 1, none⟩ (.int .i32 1)) := by
      refine ⟨fun e he => by rw [List.mem_singleton.1 he]; exact s1.1, fun e he => (by cases he), fun i j e e' hne hi hj => ?_, fun e _ e' he' => (by cases he')⟩
      have h1 := (List.getElem?_eq_some_iff.1 hi).1
      have h2 := (List.getElem?_eq_some_iff.1 hj).1
      simp at h1 h2
      omega
    have hmake := w___digest_Engine__make F b (S_digest_Engine.mk (S_sync_Once.mk S_sync_noCopy.mk (S_atomic_Bool.mk S_atomic_noCopy.mk 0) (S_sync_Mutex'.mk S_sync_noCopy.mk (S_sync_Mutex.mk 1 se))) L (S_atomic_Int64.mk S_atomic_noCopy.mk S_atomic_align64.mk c)) hz (w.setCell ⟨b, 1, none⟩ (.int .i32 1)) hgood
    have hf : Calls Tryz.prog 111 #[.pointer (some ⟨b, 0, none⟩)] (w.setCell ⟨b, 0 + 1, none⟩ (.int .i32 1)) fun e w' => e = .returned (.tuple #[]) ∧ (Keep (fun k => k = b) w w' ∧ (Ent.cells b 190 (ecells 0 1 se z.table c)).ok w') := by
      refine hmake.mono fun e w' ⟨_, he, ht⟩ => ⟨he, ?_, ?_⟩
      · refine keep_tr s1.2 (ht.keep.mono fun k _ ⟨e0, h0, hk⟩ => ?_)
        rw [List.mem_singleton.1 h0] at hk
        exact hk
      · have := ht.ok _ (List.mem_singleton.2 rfl)
        rw [q1, q2, q3, q4] at this
        exact this
    refine (do_first b _ w (cells_cell hE 0) (cells_cell hE 1) (cells_frozen hE (i := 0) (by rw [ecells_len hL]; omega)) (cells_frozen hE (i := 1) (by rw [ecells_len hL]; omega)) hf (fun w' ⟨_, hok⟩ => ⟨cells_cell hok 0, cells_cell hok 1, cells_frozen hok (i := 0) (by rw [ecells_len q5]; omega), cells_frozen hok (i := 1) (by rw [ecells_len q5]; omega)⟩)).mono fun e w' ⟨he, w1, ⟨hk, hok⟩, hw⟩ => ⟨(), he, ?_⟩
    subst hw
    have t1 := cells_set (cells_drew hok) 0 (.int .u32 1)
    have t2 := cells_set t1.1 1 (.int .i32 0)
    exact turns_cells (keep_tr hk (keep_tr (keep_drew _ w1) (keep_tr t1.2 t2.2))) t2.1

theorem w___digest_Engine__Crc (F : Nat) (a0b : Nat) (a1_o : Option Addr) (a1_c : Nat) {y : List Int × Int} (hm : m___digest_Engine__Crc F = some y) : CallG Tryz.prog 89 #[.pointer (some ⟨a0b, 0, none⟩), .slice a1_o 1 a1_c] (X := Unit) (fun (_ : Unit) => .int .u32 y.2) [.cells a0b 190 (([.int .u32 0, .int .i32 0, .int .u32 0] : List Value) ++ (aU32 (List.replicate 256 0) ++ (([.int .i64 0] : List Value))))] [.rd a1_o 1 [[.int .u8 120]]] (fun (_ : Unit) => [.cells a0b 190 (([.int .u32 1, .int .i32 0, .int .u32 0] : List Value) ++ (aU32 y.1 ++ (([.int .i64 1] : List Value))))]) := by
  intro w hg
  rw [m___digest_Engine__Crc] at hm
  refine GS.start (S := mayT [.cells a0b 190 (([.int .u32 0, .int .i32 0, .int .u32 0] : List Value) ++ (aU32 (List.replicate 256 0) ++ (([.int .i64 0] : List Value))))] [.rd a1_o 1 [[.int .u8 120]]]) (mem := [(1, .cells a0b 190 (([.int .u32 0, .int .i32 0, .int .u32 0] : List Value) ++ (aU32 (List.replicate 256 0) ++ (([.int .i64 0] : List Value))))), (2, .rd a1_o 1 [[.int .u8 120]])]) Tryz.func89 rfl Tryz.ntmps89 (Nat.le_of_ble_eq_true rfl) (hg.start rfl) ?_
  refine GS.conv (env' := [(0, .pointer (some ⟨a0b, 0, none⟩)), (1, .slice a1_o 1 a1_c)]) rfl rfl ?_
  refine GS.seq ?_
  refine GS.region (env' := fun _ => [(0, .pointer (some ⟨a0b, 0, none⟩)), (1, .slice a1_o 1 a1_c)]) (mem' := fun _ => [(1, .cells a0b 190 (([.int .u32 0, .int .i32 0, .int .u32 0] : List Value) ++ (aU32 (List.replicate 256 0) ++ (([.int .i64 0] : List Value))))), (2, .rd a1_o 1 [[.int .u8 120]])]) (RunsTo.mk [] [0, 1] [1, 2] (fun _ => []) (fun _ => by kernel_rfl) (fun _ => trivial)) ?_
  intro _
  refine GS.seq ?_
  refine GS.seq ?_
  refine GS.region (env' := fun _ => [(0, .pointer (some ⟨a0b, 0, none⟩)), (1, .slice a1_o 1 a1_c), (9, .bool false)]) (mem' := fun _ => [(1, .cells a0b 190 (([.int .u32 0, .int .i32 0, .int .u32 0] : List Value) ++ (aU32 (List.replicate 256 0) ++ (([.int .i64 0] : List Value))))), (2, .rd a1_o 1 [[.int .u8 120]])]) (RunsTo.mk [] [0, 1, 9] [1, 2] (fun _ => []) (fun _ => by kernel_rfl) (fun _ => trivial)) ?_
  intro _
  refine GS.cond (t := false) rfl rfl (fun hf => by cases hf) (fun _ => ?_)
  refine GS.skip ?_
  refine GS.seq ?_
  refine GS.open_ ?_
  refine GR.run (i := 0) 3 (env' := fun _ => [(0, .pointer (some ⟨a0b, 0, none⟩)), (1, .slice a1_o 1 a1_c), (12, .pointer (some ⟨a0b, 259, none⟩))]) (mem' := fun _ => [(1, .cells a0b 190 (([.int .u32 0, .int .i32 0, .int .u32 0] : List Value) ++ (aU32 (List.replicate 256 0) ++ (([.int .i64 0] : List Value))))), (2, .rd a1_o 1 [[.int .u8 120]])]) (Nat.le_of_ble_eq_true (by kernel_rfl)) (RunsTo.mk [] [0, 1, 12] [1, 2] (fun _ => []) (fun _ => by kernel_rfl) (fun _ => trivial)) ?_
  intro _
  refine GR.callG (X := Unit) (i := 3) (g := 109) (args := #[.pointer (some ⟨a0b, 259, none⟩), .int .i64 1]) (v := fun (_ : Unit) => .int .i64 1) (own := [.cells a0b 190 (([.int .u32 0, .int .i32 0, .int .u32 0] : List Value) ++ (aU32 (List.replicate 256 0) ++ (([.int .i64 0] : List Value))))]) (ro := []) (es' := fun (_ : Unit) => [.cells a0b 190 (([.int .u32 0, .int .i32 0, .int .u32 0] : List Value) ++ (aU32 (List.replicate 256 0) ++ (([.int .i64 1] : List Value))))]) (mem' := fun (_ : Unit) => [(1, .cells a0b 190 (([.int .u32 0, .int .i32 0, .int .u32 0] : List Value) ++ (aU32 (List.replicate 256 0) ++ (([.int .i64 1] : List Value))))), (2, .rd a1_o 1 [[.int .u8 120]])]) (env' := fun (_ : Unit) => [(0, .pointer (some ⟨a0b, 0, none⟩)), (1, .slice a1_o 1 a1_c)]) [1] [1] [0, 1] [1, 2] false (by kernel_rfl) (by kernel_rfl) (by kernel_rfl) (by kernel_rfl) (by kernel_rfl) (fun _ => rfl) (fun _ _ => rfl) trivial (by rintro _; kernel_rfl) (by rintro _; kernel_rfl) ((by have h1 := add_ok a0b 0 0 0 (List.replicate 256 0) 0 1 (List.length_replicate ..); exact h1)) ?_
  rintro _
  refine GR.done (Nat.le_of_ble_eq_true (by kernel_rfl)) ?_
  refine GS.seq ?_
  refine bnd_elim hm (fun y6 e7 hm => ?_)
  refine GS.open_ ?_
  refine GR.run (i := 0) 5 (env' := fun _ => [(0, .pointer (some ⟨a0b, 0, none⟩)), (1, .slice a1_o 1 a1_c), (16, .pointer (some ⟨a0b, 0, none⟩)), (18, .func (.func 111) #[.pointer (some ⟨a0b, 0, none⟩)] #[])]) (mem' := fun _ => [(1, .cells a0b 190 (([.int .u32 0, .int .i32 0, .int .u32 0] : List Value) ++ (aU32 (List.replicate 256 0) ++ (([.int .i64 1] : List Value))))), (2, .rd a1_o 1 [[.int .u8 120]])]) (Nat.le_of_ble_eq_true (by kernel_rfl)) (RunsTo.mk [] [0, 1, 16, 18] [1, 2] (fun _ => []) (fun _ => by kernel_rfl) (fun _ => trivial)) ?_
  intro _
  refine GR.callG (X := Unit) (i := 5) (g := 110) (args := #[.pointer (some ⟨a0b, 0, none⟩), .func (.func 111) #[.pointer (some ⟨a0b, 0, none⟩)] #[]]) (v := fun (_ : Unit) => .tuple #[]) (own := [.cells a0b 190 (([.int .u32 0, .int .i32 0, .int .u32 0] : List Value) ++ (aU32 (List.replicate 256 0) ++ (([.int .i64 1] : List Value))))]) (ro := []) (es' := fun (_ : Unit) => [.cells a0b 190 (([.int .u32 1, .int .i32 0, .int .u32 0] : List Value) ++ (aU32 y6 ++ (([.int .i64 1] : List Value))))]) (mem' := fun (_ : Unit) => [(1, .cells a0b 190 (([.int .u32 1, .int .i32 0, .int .u32 0] : List Value) ++ (aU32 y6 ++ (([.int .i64 1] : List Value))))), (2, .rd a1_o 1 [[.int .u8 120]])]) (env' := fun (_ : Unit) => [(0, .pointer (some ⟨a0b, 0, none⟩)), (1, .slice a1_o 1 a1_c)]) [1] [1] [0, 1] [1, 2] false (by kernel_rfl) (by kernel_rfl) (by kernel_rfl) (by kernel_rfl) (by kernel_rfl) (fun _ => rfl) (fun _ _ => rfl) trivial (by rintro _; kernel_rfl) (by rintro _; kernel_rfl) ((by have h1 := do_ok F a0b 0 0 0 (List.replicate 256 0) 1 e7; exact h1)) ?_
  rintro _
  refine GR.done (Nat.le_of_ble_eq_true (by kernel_rfl)) ?_
  refine GS.seq ?_
  refine GS.region (env' := fun _ => [(0, .pointer (some ⟨a0b, 0, none⟩)), (1, .slice a1_o 1 a1_c), (5, .int .u32 4294967295)]) (mem' := fun _ => [(1, .cells a0b 190 (([.int .u32 1, .int .i32 0, .int .u32 0] : List Value) ++ (aU32 y6 ++ (([.int .i64 1] : List Value))))), (2, .rd a1_o 1 [[.int .u8 120]])]) (RunsTo.mk [] [0, 1, 5] [1, 2] (fun _ => []) (fun _ => by kernel_rfl) (fun _ => trivial)) ?_
  intro _
  refine GS.seq ?_
  refine GS.seq ?_
  refine GS.region (env' := fun _ => [(0, .pointer (some ⟨a0b, 0, none⟩)), (5, .int .u32 4294967295), (20, .slice a1_o 1 a1_c), (21, .int .i64 1), (22, .int .i64 0)]) (mem' := fun _ => [(1, .cells a0b 190 (([.int .u32 1, .int .i32 0, .int .u32 0] : List Value) ++ (aU32 y6 ++ (([.int .i64 1] : List Value))))), (2, .rd a1_o 1 [[.int .u8 120]])]) (RunsTo.mk [] [0, 5, 20, 21, 22] [1, 2] (fun _ => []) (fun _ => by kernel_rfl) (fun _ => trivial)) ?_
  intro _
  refine GS.block ?_
  refine GS.loop ?_
  refine GS.seq ?_
  refine GS.region (env' := fun _ => [(0, .pointer (some ⟨a0b, 0, none⟩)), (5, .int .u32 4294967295), (20, .slice a1_o 1 a1_c), (21, .int .i64 1), (22, .int .i64 0), (23, .bool true)]) (mem' := fun _ => [(1, .cells a0b 190 (([.int .u32 1, .int .i32 0, .int .u32 0] : List Value) ++ (aU32 y6 ++ (([.int .i64 1] : List Value))))), (2, .rd a1_o 1 [[.int .u8 120]])]) (RunsTo.mk [] [0, 5, 20, 21, 22, 23] [1, 2] (fun _ => []) (fun _ => by kernel_rfl) (fun _ => trivial)) ?_
  intro _
  refine GS.seq ?_
  refine GS.cond (t := true) rfl rfl (fun _ => ?_) (fun hf => by cases hf)
  refine GS.skip ?_
  refine GS.seq ?_
  refine GS.block ?_
  refine GS.seq ?_
  refine GS.region (env' := fun _ => [(0, .pointer (some ⟨a0b, 0, none⟩)), (5, .int .u32 4294967295), (7, .int .u8 120), (20, .slice a1_o 1 a1_c), (21, .int .i64 1), (22, .int .i64 0)]) (mem' := fun _ => [(1, .cells a0b 190 (([.int .u32 1, .int .i32 0, .int .u32 0] : List Value) ++ (aU32 y6 ++ (([.int .i64 1] : List Value))))), (2, .rd a1_o 1 [[.int .u8 120]])]) (RunsTo.mk [(0, { act := .idx 2 0 }), (1, { act := .load 2 0 0 [.int .u8 120] })] [0, 5, 7, 20, 21, 22] [1, 2] (fun _ => [a1_o = a1_o, 1 = ([[.int .u8 120]] : List (List Value)).length, (0 : Int) = ((0 : Nat) : Int), 0 < 1, blk a1_o = blk a1_o, offs a1_o + 0 * 1 = offs a1_o + (0 * 1 + 0), ([[.int .u8 120]] : List (List Value))[0]? = some [.int .u8 120]]) (fun _ => by kernel_rfl) (fun _ => ⟨rfl, rfl, rfl, (Nat.le_of_ble_eq_true rfl), rfl, rfl, rfl, trivial⟩)) ?_
  intro _
  refine grd_elim hm (fun g14 hm => ?_)
  refine GS.region (env' := fun _ => [(0, .pointer (some ⟨a0b, 0, none⟩)), (5, .int .u32 (ixor .u32 16777215 (y6.getD 135 0))), (20, .slice a1_o 1 a1_c), (21, .int .i64 1), (22, .int .i64 0)]) (mem' := fun _ => [(1, .cells a0b 190 (([.int .u32 1, .int .i32 0, .int .u32 0] : List Value) ++ (aU32 y6 ++ (([.int .i64 1] : List Value))))), (2, .rd a1_o 1 [[.int .u8 120]])]) (RunsTo.mk [(10, { act := .loadC 1 [.int .u32 (y6.getD 135 0)] })] [0, 5, 20, 21, 22] [1, 2] (fun _ => [a0b = a0b, (([.int .u32 1, .int .i32 0, .int .u32 0] : List Value) ++ (aU32 y6 ++ (([.int .i64 1] : List Value))))[138]? = some (.int .u32 (y6.getD 135 0))]) (fun _ => by kernel_rfl) (fun _ => ⟨rfl, aU32_at2 (pre := ([.int .u32 1, .int .i32 0, .int .u32 0] : List Value)) (m := 3) rfl g14 (by omega), trivial⟩)) ?_
  intro _
  refine GS.inBlock ?_
  refine GS.region (env' := fun _ => [(0, .pointer (some ⟨a0b, 0, none⟩)), (5, .int .u32 (ixor .u32 16777215 (y6.getD 135 0))), (20, .slice a1_o 1 a1_c), (21, .int .i64 1), (22, .int .i64 1)]) (mem' := fun _ => [(1, .cells a0b 190 (([.int .u32 1, .int .i32 0, .int .u32 0] : List Value) ++ (aU32 y6 ++ (([.int .i64 1] : List Value))))), (2, .rd a1_o 1 [[.int .u8 120]])]) (RunsTo.mk [] [0, 5, 20, 21, 22] [1, 2] (fun _ => []) (fun _ => by kernel_rfl) (fun _ => trivial)) ?_
  intro _
  refine GS.inLoop ?_
  refine GS.seq ?_
  refine GS.region (env' := fun _ => [(0, .pointer (some ⟨a0b, 0, none⟩)), (5, .int .u32 (ixor .u32 16777215 (y6.getD 135 0))), (20, .slice a1_o 1 a1_c), (21, .int .i64 1), (22, .int .i64 1), (23, .bool false)]) (mem' := fun _ => [(1, .cells a0b 190 (([.int .u32 1, .int .i32 0, .int .u32 0] : List Value) ++ (aU32 y6 ++ (([.int .i64 1] : List Value))))), (2, .rd a1_o 1 [[.int .u8 120]])]) (RunsTo.mk [] [0, 5, 20, 21, 22, 23] [1, 2] (fun _ => []) (fun _ => by kernel_rfl) (fun _ => trivial)) ?_
  intro _
  refine GS.seq ?_
  refine GS.cond (t := false) rfl rfl (fun hf => by cases hf) (fun _ => ?_)
  refine GS.exit rfl ?_
  refine GS.seq ?_
  refine GS.region (env' := fun _ => [(4, .int .u32 (ixor .u32 4294967295 (ixor .u32 16777215 (y6.getD 135 0))))]) (mem' := fun _ => [(1, .cells a0b 190 (([.int .u32 1, .int .i32 0, .int .u32 0] : List Value) ++ (aU32 y6 ++ (([.int .i64 1] : List Value)))))]) (RunsTo.mk [] [4] [1] (fun _ => []) (fun _ => by kernel_rfl) (fun _ => trivial)) ?_
  intro _
  have hy := Option.some.inj hm
  subst hy
  refine GS.ret (fn := Tryz.f89) [0] [.int .u32 (ixor .u32 4294967295 (ixor .u32 16777215 (y6.getD 135 0)))] [] rfl Tryz.func89 (by kernel_rfl) trivial (fun w' hs => ?_)
  exact ⟨(), rfl, hs.turnedG (ks := [1]) rfl rfl⟩

theorem w_cmp_isNaN_int_ (F : Nat) {y : Unit} (hm : m_cmp_isNaN_int_ F = some y) : CallG Tryz.prog 75 #[.int .i64 3] (X := Unit) (fun (_ : Unit) => .bool false) [] [] (fun (_ : Unit) => []) := by
  intro w hg
  rw [m_cmp_isNaN_int_] at hm
  refine GS.start (S := mayT [] []) (mem := []) Tryz.func75 rfl Tryz.ntmps75 (Nat.le_of_ble_eq_true rfl) (hg.start rfl) ?_
  refine GS.conv (env' := [(0, .int .i64 3)]) rfl rfl ?_
  refine GS.seq ?_
  refine GS.region (env' := fun _ => [(0, .int .i64 3)]) (mem' := fun _ => []) (RunsTo.mk [] [0] [] (fun _ => []) (fun _ => by kernel_rfl) (fun _ => trivial)) ?_
  intro _
  refine GS.seq ?_
  refine GS.region (env' := fun _ => [(2, .bool false)]) (mem' := fun _ => []) (RunsTo.mk [] [2] [] (fun _ => []) (fun _ => by kernel_rfl) (fun _ => trivial)) ?_
  intro _
  have hy := Option.some.inj hm
  subst hy
  refine GS.ret (fn := Tryz.f75) [0] [.bool false] [] rfl Tryz.func75 (by kernel_rfl) trivial (fun w' hs => ?_)
  exact ⟨(), rfl, hs.turnedG (ks := []) rfl rfl⟩

end Go.Proofs.YtjnbkhnebmlilaaGreat
