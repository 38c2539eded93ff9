/-
  CHAPTER 13g: the functions do what their models say (5).
-/
import Derived.Test.YtmoaiokgbjkaaaaM13g
import Derived.Test.YtmoaiokgbjkaaaaW13gd
set_option linter.unusedVariables false
set_option linter.unusedSimpArgs false
set_option maxRecDepth 100000
set_option maxHeartbeats 8000000
namespace Go.Proofs.Ytmoaiokgbjkaaaa
open Go Go.RowKit Sx

theorem w_pglog_Append_3 (F : Nat) {y : Unit} (hm : m_pglog_Append_3 F = some y) : CallG Try.prog 28 #[.agg ((kc0)).toArray, .agg ((kc12)).toArray, .int .u32 7] (X := Option Addr × Nat × Option Addr × Nat × Option Addr × Nat) (fun ⟨x0, x1, x2, x3, x4, x5⟩ => .tuple #[.agg ((kc20 x0 x1 x2 x3 x4 x5)).toArray, .int .i64 0]) [] [] (fun ⟨x0, x1, x2, x3, x4, x5⟩ => [.osl x0 x1 52 7 [(kc12)], .osl x2 x3 47 5 [(kc17)], .osl x4 x5 42 4 [(kc19)]]) := by
  intro w hg
  rw [m_pglog_Append_3] at hm
  refine GS.start (S := mayT [] []) (mem := []) Try.func28 rfl Try.ntmps28 (Nat.le_of_ble_eq_true rfl) (hg.start rfl) ?_
  refine GS.conv (env' := [(0, .agg ((kc0)).toArray), (1, .agg ((kc12)).toArray), (2, .int .u32 7)]) rfl rfl ?_
  refine GS.seq ?_
  refine GS.rz (fun fr1 => [(2, .int .u32 7), (3, .pointer (some ⟨(fr1 0).x, 0, none⟩)), (4, .pointer (some ⟨(fr1 1).x, 0, none⟩)), (6, .pointer (some ⟨(fr1 2).x, 0, none⟩))]) (fun fr1 => [(1, .cells ((fr1 0).x) 28 (kc0)), (2, .cells ((fr1 1).x) 52 (kc12)), (3, .cells ((fr1 2).x) 28 (kc0))]) [(0, { act := .new .var, key := some 1 }), (1, { act := .new .var, key := some 2 }), (2, { act := .new .var, key := some 3 })] [2, 3, 4, 6] [1, 2, 3] (fun fr1 => by kernel_rfl) ?_
  intro fr1
  refine GS.seq ?_
  refine bnd_elim hm (fun y3 e4 hm => ?_)
  refine GS.rgM (fun fr2 => [(2, .int .u32 7), (3, .pointer (some ⟨(fr1 0).x, 0, none⟩)), (4, .pointer (some ⟨(fr1 1).x, 0, none⟩)), (6, .pointer (some ⟨(fr1 2).x, 0, none⟩)), (9, .bool false)]) [(0, { act := .load 1 0 0 [] }), (2, { act := .load 2 0 0 [] }), (3, { act := .call [] (.tuple #[.agg ((kc5)).toArray, .bool false]) }), (7, { act := .new .var, key := some 4 }), (8, { act := .store 0 0 [], key := some 4 })] [2, 3, 4, 6, 9] [1, 2, 3] (fun fr2 => [(fr1 0).x = (fr1 0).x, (fr1 1).x = (fr1 1).x, CallOK Try.prog 15 #[.agg ((kc0)).toArray, .string (ByteArray.mk #[102])] (.tuple #[.agg ((kc5)).toArray, .bool false]) [], (fr2 7).x = (fr2 7).x, ((.agg ((kc5)).toArray) : Value).cells.toList.all Value.oneCell' = true]) (fun fr2 => by kernel_rfl) (fun fr2 => ⟨rfl, rfl, (by have h1 := w_pglog_Find_3 F  e4; exact h1.ok trivial), rfl, rfl, trivial⟩) ?_
  intro fr2
  refine GS.seq ?_
  refine GS.block ?_
  refine GS.seq ?_
  refine bnd_elim hm (fun y6 e7 hm => ?_)
  refine bnd_elim hm (fun y8 e9 hm => ?_)
  refine GS.rM (env' := fun _ => [(2, .int .u32 7), (3, .pointer (some ⟨(fr1 0).x, 0, none⟩)), (4, .pointer (some ⟨(fr1 1).x, 0, none⟩)), (6, .pointer (some ⟨(fr1 2).x, 0, none⟩)), (9, .bool false), (23, .bool false)]) (RunsTo.mkd [(1, { act := .load 2 0 0 [] }), (2, { act := .load 1 0 0 [] }), (3, { act := .call [] (.agg #[.int .i64 0, .int .i64 0]) }), (4, { act := .call [] (.int .i64 1) }), (8, { act := .load 2 0 0 [] }), (13, { act := .load 2 0 0 [] })] [2, 3, 4, 6, 9, 23] [1, 2, 3] (fun _ => [(fr1 1).x = (fr1 1).x, (fr1 0).x = (fr1 0).x, CallOK Try.prog 23 #[.agg ((kc0)).toArray] (.agg #[.int .i64 0, .int .i64 0]) [], CallOK Try.prog 7 #[.agg #[.int .i64 1, .int .i64 1], .agg #[.int .i64 0, .int .i64 0]] (.int .i64 1) [], (fr1 1).x = (fr1 1).x, (fr1 1).x = (fr1 1).x]) (by kernel_rfl) (by kernel_rfl) (fun _ => by kernel_rfl) (fun _ => ⟨rfl, rfl, (by have h1 := w_pglog_Head_3 F  e7; exact h1.ok trivial), (by have h1 := w_pglog_Cmp_2 F  e9; exact h1.ok trivial), rfl, rfl, trivial⟩)) ?_
  intro _
  refine GS.cond (t := false) rfl rfl (fun hf => by cases hf) (fun _ => ?_)
  refine GS.seq ?_
  refine bnd_elim hm (fun y11 e12 hm => ?_)
  refine GS.rgM (fun _ => [(2, .int .u32 7), (3, .pointer (some ⟨(fr1 0).x, 0, none⟩)), (4, .pointer (some ⟨(fr1 1).x, 0, none⟩)), (6, .pointer (some ⟨(fr1 2).x, 0, none⟩)), (9, .bool false), (41, .bool false)]) [(1, { act := .load 2 0 0 [] }), (2, { act := .call [] (.bool true) })] [2, 3, 4, 6, 9, 41] [1, 2, 3] (fun _ => [(fr1 1).x = (fr1 1).x, CallOK Try.prog 38 #[.string (ByteArray.mk #[102])] (.bool true) []]) (fun _ => by kernel_rfl) (fun _ => ⟨rfl, (by have h1 := w_place_Good_2 F  e12; exact h1.ok trivial), trivial⟩) ?_
  intro _
  refine GS.cond (t := false) rfl rfl (fun hf => by cases hf) (fun _ => ?_)
  refine GS.seq ?_
  refine GS.rgM (fun _ => [(2, .int .u32 7), (3, .pointer (some ⟨(fr1 0).x, 0, none⟩)), (4, .pointer (some ⟨(fr1 1).x, 0, none⟩)), (6, .pointer (some ⟨(fr1 2).x, 0, none⟩)), (47, .bool false)]) [(1, { act := .load 2 0 0 [] }), (5, { act := .load 2 0 0 [] }), (14, { act := .load 1 0 0 [] })] [2, 3, 4, 6, 47] [1, 2, 3] (fun _ => [(fr1 1).x = (fr1 1).x, (fr1 1).x = (fr1 1).x, (fr1 0).x = (fr1 0).x]) (fun _ => by kernel_rfl) (fun _ => ⟨rfl, rfl, rfl, trivial⟩) ?_
  intro _
  refine GS.cond (t := false) rfl rfl (fun hf => by cases hf) (fun _ => ?_)
  refine GS.skip ?_
  refine GS.inBlock ?_
  refine GS.seq ?_
  refine bnd_elim hm (fun y15 e16 hm => ?_)
  refine GS.open_ ?_
  refine GR.rM (i := 0) 1 (env' := fun _ => [(2, .int .u32 7), (3, .pointer (some ⟨(fr1 0).x, 0, none⟩)), (4, .pointer (some ⟨(fr1 1).x, 0, none⟩)), (6, .pointer (some ⟨(fr1 2).x, 0, none⟩)), (67, .agg ((kc0)).toArray)]) (by kernel_rfl) (RunsTo.mk [(0, { act := .load 1 0 0 [] })] [2, 3, 4, 6, 67] [1, 2, 3] (fun _ => [(fr1 0).x = (fr1 0).x]) (fun _ => by kernel_rfl) (fun _ => ⟨rfl, trivial⟩)) ?_
  intro _
  refine GR.callG (X := Option Addr × Nat × Option Addr × Nat × Option Addr × Nat) (i := 1) (g := 20) (args := #[.agg ((kc0)).toArray]) (v := fun ⟨x17, x18, x19, x20, x21, x22⟩ => .agg ((kc15 x17 x18 x19 x20 x21 x22)).toArray) (own := []) (ro := []) (es' := fun ⟨x17, x18, x19, x20, x21, x22⟩ => [.osl x17 x18 52 7 [], .osl x19 x20 47 5 [], .osl x21 x22 42 4 []]) (mem' := fun ⟨x17, x18, x19, x20, x21, x22⟩ => [(1, .cells ((fr1 0).x) 28 (kc0)), (2, .cells ((fr1 1).x) 52 (kc12)), (3, .cells ((fr1 2).x) 28 (kc0)), (5, .osl x17 x18 52 7 []), (6, .osl x19 x20 47 5 []), (7, .osl x21 x22 42 4 [])]) (env' := fun ⟨x17, x18, x19, x20, x21, x22⟩ => [(2, .int .u32 7), (3, .pointer (some ⟨(fr1 0).x, 0, none⟩)), (4, .pointer (some ⟨(fr1 1).x, 0, none⟩)), (6, .pointer (some ⟨(fr1 2).x, 0, none⟩)), (68, .agg ((kc15 x17 x18 x19 x20 x21 x22)).toArray)]) [] [5, 6, 7] [2, 3, 4, 6, 68] [1, 2, 3, 5, 6, 7] false (by kernel_rfl) (by kernel_rfl) (by kernel_rfl) (by kernel_rfl) (by kernel_rfl) (fun _ => rfl) (fun _ _ => rfl) trivial (by rintro ⟨x17, x18, x19, x20, x21, x22⟩; kernel_rfl) (by rintro ⟨x17, x18, x19, x20, x21, x22⟩; kernel_rfl) ((by have h1 := w_pglog_Copy_3 F  e16; exact h1)) ?_
  rintro ⟨x17, x18, x19, x20, x21, x22⟩
  refine GR.ru (i := 2) 1 (env' := fun _ => [(2, .int .u32 7), (3, .pointer (some ⟨(fr1 0).x, 0, none⟩)), (4, .pointer (some ⟨(fr1 1).x, 0, none⟩)), (6, .pointer (some ⟨(fr1 2).x, 0, none⟩))]) (mem' := fun _ => [(1, .cells ((fr1 0).x) 28 (kc15 x17 x18 x19 x20 x21 x22)), (2, .cells ((fr1 1).x) 52 (kc12)), (3, .cells ((fr1 2).x) 28 (kc0)), (5, .osl x17 x18 52 7 []), (6, .osl x19 x20 47 5 []), (7, .osl x21 x22 42 4 [])]) (by kernel_rfl) (RunsTo.mk [(2, { act := .store 0 0 [], key := some 1 })] [2, 3, 4, 6] [1, 2, 3, 5, 6, 7] (fun _ => [(fr1 0).x = (fr1 0).x, ((.agg ((kc15 x17 x18 x19 x20 x21 x22)).toArray) : Value).cells.toList.all Value.oneCell' = true]) (fun _ => by kernel_rfl) (fun _ => ⟨rfl, rfl, trivial⟩)) ?_
  intro _
  refine GR.dn (by kernel_rfl) ?_
  refine GS.seq ?_
  refine GS.rg (fun fr24 => [(2, .int .u32 7), (3, .pointer (some ⟨(fr1 0).x, 0, none⟩)), (4, .pointer (some ⟨(fr1 1).x, 0, none⟩)), (6, .pointer (some ⟨(fr1 2).x, 0, none⟩))]) (fun fr24 => [(1, .cells ((fr1 0).x) 28 (kc16 ((fr24 4).ob) ((fr24 4).cap) x19 x20 x21 x22)), (2, .cells ((fr1 1).x) 52 (kc12)), (3, .cells ((fr1 2).x) 28 (kc0)), (5, .osl ((fr24 4).ob) ((fr24 4).cap) 52 7 (([] : List (List Value)) ++ ([(kc12)] : List (List Value)))), (6, .osl x19 x20 47 5 []), (7, .osl x21 x22 42 4 [])]) [(1, { act := .load 1 0 0 [] }), (2, { act := .load 2 0 0 [] }), (3, { act := .new (.row 1 7), key := some 8 }), (4, { act := .app (some 8), key := some 5, spf := some (fun f => .slice (f.ob) 1 (f.cap)) }), (6, { act := .store 0 0 [], key := some 1 })] [2, 3, 4, 6] [1, 2, 3, 5, 6, 7] (fun fr24 => [(fr1 0).x = (fr1 0).x, (fr1 1).x = (fr1 1).x, (some (Addr.mk (fr24 3).x 0 none)) = (some (Addr.mk (fr24 3).x 0 none)), 1 = ([(kc12)] : List (List Value)).length, x17 = x17, x18 = x18, 0 = ([] : List (List Value)).length, (([] : List (List Value)).length + ([(kc12)] : List (List Value)).length) * (64 + 1) ≤ 70368744177664, ([(kc12)] : List (List Value)).flatten.all Value.oneCell' = true, ((.slice ((fr24 4).ob) (0 + ([(kc12)] : List (List Value)).length) ((fr24 4).cap)) : Value) = .slice ((fr24 4).ob) 1 ((fr24 4).cap), (fr1 0).x = (fr1 0).x, ((.slice ((fr24 4).ob) 1 ((fr24 4).cap)) : Value).cells.toList.all Value.oneCell' = true]) (fun fr24 => by kernel_rfl) (fun fr24 => ⟨rfl, rfl, rfl, rfl, rfl, rfl, rfl, (show (0 + 1) * (64 + 1) ≤ 70368744177664 by decide), rfl, rfl, rfl, rfl, trivial⟩) ?_
  intro fr24
  refine GS.conv (mem' := [(1, .cells ((fr1 0).x) 28 (kc16 ((fr24 4).ob) ((fr24 4).cap) x19 x20 x21 x22)), (2, .cells ((fr1 1).x) 52 (kc12)), (3, .cells ((fr1 2).x) 28 (kc0)), (5, .osl ((fr24 4).ob) ((fr24 4).cap) 52 7 [(kc12)]), (6, .osl x19 x20 47 5 []), (7, .osl x21 x22 42 4 [])]) rfl (congrArg (fun rr : List (List Value) => ([(1, .cells ((fr1 0).x) 28 (kc16 ((fr24 4).ob) ((fr24 4).cap) x19 x20 x21 x22)), (2, .cells ((fr1 1).x) 52 (kc12)), (3, .cells ((fr1 2).x) 28 (kc0)), (5, .osl ((fr24 4).ob) ((fr24 4).cap) 52 7 rr), (6, .osl x19 x20 47 5 []), (7, .osl x21 x22 42 4 [])] : List (Nat × Ent))) (show ([] : List (List Value)) ++ ([(kc12)] : List (List Value)) = ([(kc12)] : List (List Value)) from rfl)) ?_
  refine GS.seq ?_
  refine GS.rg (fun fr25 => [(2, .int .u32 7), (3, .pointer (some ⟨(fr1 0).x, 0, none⟩)), (4, .pointer (some ⟨(fr1 1).x, 0, none⟩)), (6, .pointer (some ⟨(fr1 2).x, 0, none⟩)), (10, .pointer (some ⟨(fr25 9).x, 0, none⟩))]) (fun fr25 => [(1, .cells ((fr1 0).x) 28 (kc16 ((fr24 4).ob) ((fr24 4).cap) x19 x20 x21 x22)), (2, .cells ((fr1 1).x) 52 (kc12)), (3, .cells ((fr1 2).x) 28 (kc0)), (5, .osl ((fr24 4).ob) ((fr24 4).cap) 52 7 [(kc12)]), (6, .osl x19 x20 47 5 []), (7, .osl x21 x22 42 4 []), (9, .cells ((fr25 9).x) 47 (kc17))]) [(1, { act := .load 2 0 0 [] }), (3, { act := .load 2 0 0 [] }), (5, { act := .load 2 0 0 [] }), (7, { act := .load 2 0 0 [] }), (9, { act := .new .var, key := some 9 }), (10, { act := .store 0 0 [], key := some 9 })] [2, 3, 4, 6, 10] [1, 2, 3, 5, 6, 7, 9] (fun fr25 => [(fr1 1).x = (fr1 1).x, (fr1 1).x = (fr1 1).x, (fr1 1).x = (fr1 1).x, (fr1 1).x = (fr1 1).x, (fr25 9).x = (fr25 9).x, ((.agg ((kc17)).toArray) : Value).cells.toList.all Value.oneCell' = true]) (fun fr25 => by kernel_rfl) (fun fr25 => ⟨rfl, rfl, rfl, rfl, rfl, rfl, trivial⟩) ?_
  intro fr25
  refine GS.seq ?_
  refine GS.seq ?_
  refine bnd_elim hm (fun y27 e28 hm => ?_)
  refine GS.rgM (fun _ => [(2, .int .u32 7), (3, .pointer (some ⟨(fr1 0).x, 0, none⟩)), (4, .pointer (some ⟨(fr1 1).x, 0, none⟩)), (6, .pointer (some ⟨(fr1 2).x, 0, none⟩)), (10, .pointer (some ⟨(fr25 9).x, 0, none⟩)), (11, .int .i64 0), (12, .bool false)]) [(1, { act := .load 1 0 0 [] }), (3, { act := .load 2 0 0 [] }), (4, { act := .call [6] (.tuple #[.int .i64 0, .bool false]) })] [2, 3, 4, 6, 10, 11, 12] [1, 2, 3, 5, 6, 7, 9] (fun _ => [(fr1 0).x = (fr1 0).x, (fr1 1).x = (fr1 1).x, CallOK Try.prog 41 #[.slice x19 0 x20, .func (.func 37) #[] #[], .int .i64 3] (.tuple #[.int .i64 0, .bool false]) [some (.osl x19 x20 47 5 [])]]) (fun _ => by kernel_rfl) (fun _ => ⟨rfl, rfl, (by have h1 := w_pglog_look_api_Last_int__2 F x19 x20 e28; exact h1.ok ⟨(.inl ⟨.osl x19 x20 47 5 [], .head _, Cov.osl_rd⟩), trivial⟩), trivial⟩) ?_
  intro _
  refine GS.seq ?_
  refine GS.rzM (fun _ => [(2, .int .u32 7), (3, .pointer (some ⟨(fr1 0).x, 0, none⟩)), (4, .pointer (some ⟨(fr1 1).x, 0, none⟩)), (6, .pointer (some ⟨(fr1 2).x, 0, none⟩)), (10, .pointer (some ⟨(fr25 9).x, 0, none⟩)), (11, .int .i64 0), (92, .bool false)]) [] [2, 3, 4, 6, 10, 11, 92] [1, 2, 3, 5, 6, 7, 9] (fun _ => by kernel_rfl) ?_
  intro _
  refine GS.cond (t := false) rfl rfl (fun hf => by cases hf) (fun _ => ?_)
  refine GS.know (p := 0 ≤ x20) (fun w hw => (hw.ok 6 _ rfl).1.1) (fun k30 => ?_)
  refine bnd_elim hm (fun y32 e33 hm => ?_)
  refine GS.open_ ?_
  refine GR.ru (i := 0) 5 (env' := fun fr31 => [(2, .int .u32 7), (3, .pointer (some ⟨(fr1 0).x, 0, none⟩)), (4, .pointer (some ⟨(fr1 1).x, 0, none⟩)), (6, .pointer (some ⟨(fr1 2).x, 0, none⟩)), (99, .slice x19 0 x20), (100, .int .i64 0), (102, .slice (some (Addr.mk (fr31 4).x 0 none)) 1 1)]) (mem' := fun fr31 => [(1, .cells ((fr1 0).x) 28 (kc16 ((fr24 4).ob) ((fr24 4).cap) x19 x20 x21 x22)), (2, .cells ((fr1 1).x) 52 (kc12)), (3, .cells ((fr1 2).x) 28 (kc0)), (5, .osl ((fr24 4).ob) ((fr24 4).cap) 52 7 [(kc12)]), (6, .osl x19 x20 47 5 []), (7, .osl x21 x22 42 4 []), (10, .osl (some (Addr.mk (fr31 4).x 0 none)) 1 47 5 [(kc17)])]) (by kernel_rfl) (RunsTo.mk [(1, { act := .load 1 0 0 [] }), (3, { act := .load 9 0 0 [] }), (4, { act := .new (.row 1 5), key := some 10 })] [2, 3, 4, 6, 99, 100, 102] [1, 2, 3, 5, 6, 7, 10] (fun fr31 => [(fr1 0).x = (fr1 0).x, (fr25 9).x = (fr25 9).x]) (fun fr31 => by kernel_rfl) (fun fr31 => ⟨rfl, rfl, trivial⟩)) ?_
  intro fr31
  refine GR.callG (X := Option Addr × Nat) (i := 5) (g := 42) (args := #[.slice x19 0 x20, .int .i64 0, .slice (some (Addr.mk (fr31 4).x 0 none)) 1 1]) (v := fun ⟨x34, x35⟩ => .slice x34 1 x35) (own := [.osl x19 x20 47 5 []]) (ro := [.rd (some (Addr.mk (fr31 4).x 0 none)) 5 [(kc17)]]) (es' := fun ⟨x34, x35⟩ => [.osl x34 x35 47 5 [(kc17)]]) (mem' := fun ⟨x34, x35⟩ => [(1, .cells ((fr1 0).x) 28 (kc16 ((fr24 4).ob) ((fr24 4).cap) x19 x20 x21 x22)), (2, .cells ((fr1 1).x) 52 (kc12)), (3, .cells ((fr1 2).x) 28 (kc0)), (5, .osl ((fr24 4).ob) ((fr24 4).cap) 52 7 [(kc12)]), (6, .osl x34 x35 47 5 [(kc17)]), (7, .osl x21 x22 42 4 []), (10, .osl (some (Addr.mk (fr31 4).x 0 none)) 1 47 5 [(kc17)])]) (env' := fun ⟨x34, x35⟩ => [(2, .int .u32 7), (3, .pointer (some ⟨(fr1 0).x, 0, none⟩)), (4, .pointer (some ⟨(fr1 1).x, 0, none⟩)), (6, .pointer (some ⟨(fr1 2).x, 0, none⟩)), (103, .slice x34 1 x35)]) [6] [6] [2, 3, 4, 6, 103] [1, 2, 3, 5, 6, 7, 10] false (by kernel_rfl) (by kernel_rfl) (by kernel_rfl) (by kernel_rfl) (by kernel_rfl) (fun _ => rfl) (fun _ _ => rfl) ⟨(.inl ⟨10, _, rfl, rfl, Cov.osl_rd, fun h => by cases h⟩), trivial⟩ (by rintro ⟨x34, x35⟩; kernel_rfl) (by rintro ⟨x34, x35⟩; kernel_rfl) ((by have h1 := w_slices_Insert___api_Last_api_Last_ F x19 x20 (some (Addr.mk (fr31 4).x 0 none)) 1 k30 e33; exact h1)) ?_
  rintro ⟨x34, x35⟩
  refine GR.ru (i := 6) 2 (env' := fun _ => [(2, .int .u32 7), (3, .pointer (some ⟨(fr1 0).x, 0, none⟩)), (4, .pointer (some ⟨(fr1 1).x, 0, none⟩)), (6, .pointer (some ⟨(fr1 2).x, 0, none⟩))]) (mem' := fun _ => [(1, .cells ((fr1 0).x) 28 (kc18 ((fr24 4).ob) ((fr24 4).cap) x34 x35 x21 x22)), (2, .cells ((fr1 1).x) 52 (kc12)), (3, .cells ((fr1 2).x) 28 (kc0)), (5, .osl ((fr24 4).ob) ((fr24 4).cap) 52 7 [(kc12)]), (6, .osl x34 x35 47 5 [(kc17)]), (7, .osl x21 x22 42 4 [])]) (by kernel_rfl) (RunsTo.mk [(7, { act := .store 0 0 [], key := some 1 })] [2, 3, 4, 6] [1, 2, 3, 5, 6, 7] (fun _ => [(fr1 0).x = (fr1 0).x, ((.slice x34 1 x35) : Value).cells.toList.all Value.oneCell' = true]) (fun _ => by kernel_rfl) (fun _ => ⟨rfl, rfl, trivial⟩)) ?_
  intro _
  refine GR.dn (by kernel_rfl) ?_
  refine GS.seq ?_
  refine GS.seq ?_
  refine GS.rgM (fun _ => [(2, .int .u32 7), (3, .pointer (some ⟨(fr1 0).x, 0, none⟩)), (4, .pointer (some ⟨(fr1 1).x, 0, none⟩)), (6, .pointer (some ⟨(fr1 2).x, 0, none⟩)), (107, .bool false)]) [(1, { act := .load 2 0 0 [] })] [2, 3, 4, 6, 107] [1, 2, 3, 5, 6, 7] (fun _ => [(fr1 1).x = (fr1 1).x]) (fun _ => by kernel_rfl) (fun _ => ⟨rfl, trivial⟩) ?_
  intro _
  refine GS.cond (t := false) rfl rfl (fun hf => by cases hf) (fun _ => ?_)
  refine GS.skip ?_
  refine GS.seq ?_
  refine bnd_elim hm (fun y39 e40 hm => ?_)
  refine GS.rgM (fun _ => [(2, .int .u32 7), (3, .pointer (some ⟨(fr1 0).x, 0, none⟩)), (4, .pointer (some ⟨(fr1 1).x, 0, none⟩)), (6, .pointer (some ⟨(fr1 2).x, 0, none⟩)), (13, .int .i64 0), (14, .bool false)]) [(1, { act := .load 1 0 0 [] }), (3, { act := .load 2 0 0 [] }), (4, { act := .call [7] (.tuple #[.int .i64 0, .bool false]) })] [2, 3, 4, 6, 13, 14] [1, 2, 3, 5, 6, 7] (fun _ => [(fr1 0).x = (fr1 0).x, (fr1 1).x = (fr1 1).x, CallOK Try.prog 43 #[.slice x21 0 x22, .func (.func 35) #[] #[], .string (ByteArray.mk #[102])] (.tuple #[.int .i64 0, .bool false]) [some (.osl x21 x22 42 4 [])]]) (fun _ => by kernel_rfl) (fun _ => ⟨rfl, rfl, (by have h1 := w_pglog_look_api_Item_string__2 F x21 x22 e40; exact h1.ok ⟨(.inl ⟨.osl x21 x22 42 4 [], .head _, Cov.osl_rd⟩), trivial⟩), trivial⟩) ?_
  intro _
  refine GS.seq ?_
  refine GS.rg (fun fr41 => [(3, .pointer (some ⟨(fr1 0).x, 0, none⟩)), (4, .pointer (some ⟨(fr1 1).x, 0, none⟩)), (6, .pointer (some ⟨(fr1 2).x, 0, none⟩)), (13, .int .i64 0), (14, .bool false), (15, .pointer (some ⟨(fr41 6).x, 0, none⟩))]) (fun fr41 => [(1, .cells ((fr1 0).x) 28 (kc18 ((fr24 4).ob) ((fr24 4).cap) x34 x35 x21 x22)), (2, .cells ((fr1 1).x) 52 (kc12)), (3, .cells ((fr1 2).x) 28 (kc0)), (5, .osl ((fr24 4).ob) ((fr24 4).cap) 52 7 [(kc12)]), (6, .osl x34 x35 47 5 [(kc17)]), (7, .osl x21 x22 42 4 []), (11, .cells ((fr41 6).x) 42 (kc19))]) [(1, { act := .load 2 0 0 [] }), (3, { act := .load 2 0 0 [] }), (6, { act := .new .var, key := some 11 }), (7, { act := .store 0 0 [], key := some 11 })] [3, 4, 6, 13, 14, 15] [1, 2, 3, 5, 6, 7, 11] (fun fr41 => [(fr1 1).x = (fr1 1).x, (fr1 1).x = (fr1 1).x, (fr41 6).x = (fr41 6).x, ((.agg ((kc19)).toArray) : Value).cells.toList.all Value.oneCell' = true]) (fun fr41 => by kernel_rfl) (fun fr41 => ⟨rfl, rfl, rfl, rfl, trivial⟩) ?_
  intro fr41
  refine GS.seq ?_
  refine GS.block ?_
  refine GS.seq ?_
  refine GS.rgM (fun _ => [(3, .pointer (some ⟨(fr1 0).x, 0, none⟩)), (4, .pointer (some ⟨(fr1 1).x, 0, none⟩)), (6, .pointer (some ⟨(fr1 2).x, 0, none⟩)), (13, .int .i64 0), (14, .bool false), (15, .pointer (some ⟨(fr41 6).x, 0, none⟩)), (130, .bool false)]) [(1, { act := .load 2 0 0 [] })] [3, 4, 6, 13, 14, 15, 130] [1, 2, 3, 5, 6, 7, 11] (fun _ => [(fr1 1).x = (fr1 1).x]) (fun _ => by kernel_rfl) (fun _ => ⟨rfl, trivial⟩) ?_
  intro _
  refine GS.cond (t := false) rfl rfl (fun hf => by cases hf) (fun _ => ?_)
  refine GS.seq ?_
  refine GS.rg (fun _ => [(3, .pointer (some ⟨(fr1 0).x, 0, none⟩)), (6, .pointer (some ⟨(fr1 2).x, 0, none⟩)), (13, .int .i64 0), (14, .bool false), (15, .pointer (some ⟨(fr41 6).x, 0, none⟩)), (143, .bool false)]) (fun _ => [(1, .cells ((fr1 0).x) 28 (kc18 ((fr24 4).ob) ((fr24 4).cap) x34 x35 x21 x22)), (3, .cells ((fr1 2).x) 28 (kc0)), (5, .osl ((fr24 4).ob) ((fr24 4).cap) 52 7 [(kc12)]), (6, .osl x34 x35 47 5 [(kc17)]), (7, .osl x21 x22 42 4 []), (11, .cells ((fr41 6).x) 42 (kc19))]) [(1, { act := .load 2 0 0 [] })] [3, 6, 13, 14, 15, 143] [1, 3, 5, 6, 7, 11] (fun _ => [(fr1 1).x = (fr1 1).x]) (fun _ => by kernel_rfl) (fun _ => ⟨rfl, trivial⟩) ?_
  intro _
  refine GS.cond (t := false) rfl rfl (fun hf => by cases hf) (fun _ => ?_)
  refine GS.seq ?_
  refine GS.rzM (fun _ => [(3, .pointer (some ⟨(fr1 0).x, 0, none⟩)), (6, .pointer (some ⟨(fr1 2).x, 0, none⟩)), (13, .int .i64 0), (15, .pointer (some ⟨(fr41 6).x, 0, none⟩)), (146, .bool false)]) [] [3, 6, 13, 15, 146] [1, 3, 5, 6, 7, 11] (fun _ => by kernel_rfl) ?_
  intro _
  refine GS.cond (t := false) rfl rfl (fun hf => by cases hf) (fun _ => ?_)
  refine GS.know (p := 0 ≤ x22) (fun w hw => (hw.ok 7 _ rfl).1.1) (fun k45 => ?_)
  refine bnd_elim hm (fun y47 e48 hm => ?_)
  refine GS.open_ ?_
  refine GR.ru (i := 0) 5 (env' := fun fr46 => [(3, .pointer (some ⟨(fr1 0).x, 0, none⟩)), (6, .pointer (some ⟨(fr1 2).x, 0, none⟩)), (124, .slice x21 0 x22), (125, .int .i64 0), (127, .slice (some (Addr.mk (fr46 4).x 0 none)) 1 1)]) (mem' := fun fr46 => [(1, .cells ((fr1 0).x) 28 (kc18 ((fr24 4).ob) ((fr24 4).cap) x34 x35 x21 x22)), (3, .cells ((fr1 2).x) 28 (kc0)), (5, .osl ((fr24 4).ob) ((fr24 4).cap) 52 7 [(kc12)]), (6, .osl x34 x35 47 5 [(kc17)]), (7, .osl x21 x22 42 4 []), (12, .osl (some (Addr.mk (fr46 4).x 0 none)) 1 42 4 [(kc19)])]) (by kernel_rfl) (RunsTo.mk [(1, { act := .load 1 0 0 [] }), (3, { act := .load 11 0 0 [] }), (4, { act := .new (.row 1 4), key := some 12 })] [3, 6, 124, 125, 127] [1, 3, 5, 6, 7, 12] (fun fr46 => [(fr1 0).x = (fr1 0).x, (fr41 6).x = (fr41 6).x]) (fun fr46 => by kernel_rfl) (fun fr46 => ⟨rfl, rfl, trivial⟩)) ?_
  intro fr46
  refine GR.callG (X := Option Addr × Nat) (i := 5) (g := 45) (args := #[.slice x21 0 x22, .int .i64 0, .slice (some (Addr.mk (fr46 4).x 0 none)) 1 1]) (v := fun ⟨x49, x50⟩ => .slice x49 1 x50) (own := [.osl x21 x22 42 4 []]) (ro := [.rd (some (Addr.mk (fr46 4).x 0 none)) 4 [(kc19)]]) (es' := fun ⟨x49, x50⟩ => [.osl x49 x50 42 4 [(kc19)]]) (mem' := fun ⟨x49, x50⟩ => [(1, .cells ((fr1 0).x) 28 (kc18 ((fr24 4).ob) ((fr24 4).cap) x34 x35 x21 x22)), (3, .cells ((fr1 2).x) 28 (kc0)), (5, .osl ((fr24 4).ob) ((fr24 4).cap) 52 7 [(kc12)]), (6, .osl x34 x35 47 5 [(kc17)]), (7, .osl x49 x50 42 4 [(kc19)]), (12, .osl (some (Addr.mk (fr46 4).x 0 none)) 1 42 4 [(kc19)])]) (env' := fun ⟨x49, x50⟩ => [(3, .pointer (some ⟨(fr1 0).x, 0, none⟩)), (6, .pointer (some ⟨(fr1 2).x, 0, none⟩)), (128, .slice x49 1 x50)]) [7] [7] [3, 6, 128] [1, 3, 5, 6, 7, 12] false (by kernel_rfl) (by kernel_rfl) (by kernel_rfl) (by kernel_rfl) (by kernel_rfl) (fun _ => rfl) (fun _ _ => rfl) ⟨(.inl ⟨12, _, rfl, rfl, Cov.osl_rd, fun h => by cases h⟩), trivial⟩ (by rintro ⟨x49, x50⟩; kernel_rfl) (by rintro ⟨x49, x50⟩; kernel_rfl) ((by have h1 := w_slices_Insert___api_Item_api_Item_ F x21 x22 (some (Addr.mk (fr46 4).x 0 none)) 1 k45 e48; exact h1)) ?_
  rintro ⟨x49, x50⟩
  refine GR.ru (i := 6) 2 (env' := fun _ => [(3, .pointer (some ⟨(fr1 0).x, 0, none⟩)), (6, .pointer (some ⟨(fr1 2).x, 0, none⟩))]) (mem' := fun _ => [(1, .cells ((fr1 0).x) 28 (kc20 ((fr24 4).ob) ((fr24 4).cap) x34 x35 x49 x50)), (3, .cells ((fr1 2).x) 28 (kc0)), (5, .osl ((fr24 4).ob) ((fr24 4).cap) 52 7 [(kc12)]), (6, .osl x34 x35 47 5 [(kc17)]), (7, .osl x49 x50 42 4 [(kc19)])]) (by kernel_rfl) (RunsTo.mk [(7, { act := .store 0 0 [], key := some 1 })] [3, 6] [1, 3, 5, 6, 7] (fun _ => [(fr1 0).x = (fr1 0).x, ((.slice x49 1 x50) : Value).cells.toList.all Value.oneCell' = true]) (fun _ => by kernel_rfl) (fun _ => ⟨rfl, rfl, trivial⟩)) ?_
  intro _
  refine GR.dn (by kernel_rfl) ?_
  refine GS.inBlock ?_
  refine GS.seq ?_
  refine GS.rg (fun _ => [(6, .pointer (some ⟨(fr1 2).x, 0, none⟩)), (7, .int .i64 0)]) (fun _ => [(3, .cells ((fr1 2).x) 28 (kc20 ((fr24 4).ob) ((fr24 4).cap) x34 x35 x49 x50)), (5, .osl ((fr24 4).ob) ((fr24 4).cap) 52 7 [(kc12)]), (6, .osl x34 x35 47 5 [(kc17)]), (7, .osl x49 x50 42 4 [(kc19)])]) [(0, { act := .load 1 0 0 [] }), (1, { act := .store 0 0 [], key := some 3 })] [6, 7] [3, 5, 6, 7] (fun _ => [(fr1 0).x = (fr1 0).x, (fr1 2).x = (fr1 2).x, ((.agg ((kc20 ((fr24 4).ob) ((fr24 4).cap) x34 x35 x49 x50)).toArray) : Value).cells.toList.all Value.oneCell' = true]) (fun _ => by kernel_rfl) (fun _ => ⟨rfl, rfl, rfl, trivial⟩) ?_
  intro _
  have hy := Option.some.inj hm
  subst hy
  refine GS.ret (fn := Try.f28) [3, 0] [.agg ((kc20 ((fr24 4).ob) ((fr24 4).cap) x34 x35 x49 x50)).toArray, .int .i64 0] [(fr1 2).x = (fr1 2).x] rfl Try.func28 (by kernel_rfl) ⟨rfl, trivial⟩ (fun w' hs => ?_)
  exact ⟨⟨(fr24 4).ob, (fr24 4).cap, x34, x35, x49, x50⟩, rfl, hs.turnedG (ks := [5, 6, 7]) rfl rfl⟩

theorem w_pglog_Find_4 (F : Nat) (a0_3_o : Option Addr) (a0_3_c : Nat) (a0_4_o : Option Addr) (a0_4_c : Nat) (a0_5_o : Option Addr) (a0_5_c : Nat) {y : Unit} (hm : m_pglog_Find_4 F = some y) : CallG Try.prog 15 #[.agg ((kc20 a0_3_o a0_3_c a0_4_o a0_4_c a0_5_o a0_5_c)).toArray, .string (ByteArray.mk #[102])] (X := Unit) (fun (_ : Unit) => .tuple #[.agg ((kc19)).toArray, .bool true]) [] [.rd a0_3_o 7 [(kc12)], .rd a0_4_o 5 [(kc17)], .rd a0_5_o 4 [(kc19)]] (fun (_ : Unit) => []) := by
  intro w hg
  rw [m_pglog_Find_4] at hm
  refine GS.start (S := mayT [] [.rd a0_3_o 7 [(kc12)], .rd a0_4_o 5 [(kc17)], .rd a0_5_o 4 [(kc19)]]) (mem := [(1, .rd a0_3_o 7 [(kc12)]), (2, .rd a0_4_o 5 [(kc17)]), (3, .rd a0_5_o 4 [(kc19)])]) Try.func15 rfl Try.ntmps15 (Nat.le_of_ble_eq_true rfl) (hg.start rfl) ?_
  refine GS.conv (env' := [(0, .agg ((kc20 a0_3_o a0_3_c a0_4_o a0_4_c a0_5_o a0_5_c)).toArray), (1, .string (ByteArray.mk #[102]))]) rfl rfl ?_
  refine GS.seq ?_
  refine GS.rz (fun fr1 => [(1, .string (ByteArray.mk #[102])), (2, .pointer (some ⟨(fr1 0).x, 0, none⟩)), (4, .pointer (some ⟨(fr1 1).x, 0, none⟩))]) (fun fr1 => [(1, .rd a0_3_o 7 [(kc12)]), (2, .rd a0_4_o 5 [(kc17)]), (3, .rd a0_5_o 4 [(kc19)]), (4, .cells ((fr1 0).x) 28 (kc20 a0_3_o a0_3_c a0_4_o a0_4_c a0_5_o a0_5_c)), (5, .cells ((fr1 1).x) 42 (kc5))]) [(0, { act := .new .var, key := some 4 }), (1, { act := .new .var, key := some 5 })] [1, 2, 4] [1, 2, 3, 4, 5] (fun fr1 => by kernel_rfl) ?_
  intro fr1
  refine GS.seq ?_
  refine GS.seq ?_
  refine GS.rg (fun _ => [(1, .string (ByteArray.mk #[102])), (4, .pointer (some ⟨(fr1 1).x, 0, none⟩)), (9, .slice a0_5_o 1 a0_5_c), (10, .int .i64 1), (11, .int .i64 0)]) (fun _ => [(3, .rd a0_5_o 4 [(kc19)]), (5, .cells ((fr1 1).x) 42 (kc5))]) [(1, { act := .load 4 0 0 [] })] [1, 4, 9, 10, 11] [3, 5] (fun _ => [(fr1 0).x = (fr1 0).x]) (fun _ => by kernel_rfl) (fun _ => ⟨rfl, trivial⟩) ?_
  intro _
  refine GS.block ?_
  refine GS.loop ?_
  refine GS.seq ?_
  refine GS.rzM (fun _ => [(1, .string (ByteArray.mk #[102])), (4, .pointer (some ⟨(fr1 1).x, 0, none⟩)), (9, .slice a0_5_o 1 a0_5_c), (10, .int .i64 1), (11, .int .i64 0), (12, .bool true)]) [] [1, 4, 9, 10, 11, 12] [3, 5] (fun _ => by kernel_rfl) ?_
  intro _
  refine GS.seq ?_
  refine GS.cond (t := true) rfl rfl (fun _ => ?_) (fun hf => by cases hf)
  refine GS.skip ?_
  refine GS.seq ?_
  refine GS.block ?_
  refine GS.seq ?_
  refine GS.rg (fun fr4 => [(1, .string (ByteArray.mk #[102])), (4, .pointer (some ⟨(fr1 1).x, 0, none⟩)), (7, .pointer (some ⟨(fr4 2).x, 0, none⟩)), (9, .slice a0_5_o 1 a0_5_c), (10, .int .i64 1), (11, .int .i64 0)]) (fun fr4 => [(3, .rd a0_5_o 4 [(kc19)]), (5, .cells ((fr1 1).x) 42 (kc5)), (6, .cells ((fr4 2).x) 42 (kc19))]) [(0, { act := .idx 3 0 }), (1, { act := .load 3 0 0 [.string (ByteArray.mk #[102]), .int .i64 1, .int .i64 1, .int .u32 7] }), (2, { act := .new .var, key := some 6 }), (3, { act := .store 0 0 [], key := some 6 })] [1, 4, 7, 9, 10, 11] [3, 5, 6] (fun fr4 => [a0_5_o = a0_5_o, 1 = ([(kc19)] : List (List Value)).length, (0 : Int) = ((0 : Nat) : Int), 0 < 1, blk a0_5_o = blk a0_5_o, offs a0_5_o + 0 * 4 = offs a0_5_o + (0 * 4 + 0), ([(kc19)] : List (List Value))[0]? = some [.string (ByteArray.mk #[102]), .int .i64 1, .int .i64 1, .int .u32 7], (fr4 2).x = (fr4 2).x, ((.agg ((kc19)).toArray) : Value).cells.toList.all Value.oneCell' = true]) (fun fr4 => by kernel_rfl) (fun fr4 => ⟨rfl, rfl, rfl, (Nat.le_of_ble_eq_true rfl), rfl, rfl, rfl, rfl, rfl, trivial⟩) ?_
  intro fr4
  refine GS.seq ?_
  refine GS.rgM (fun _ => [(1, .string (ByteArray.mk #[102])), (4, .pointer (some ⟨(fr1 1).x, 0, none⟩)), (7, .pointer (some ⟨(fr4 2).x, 0, none⟩)), (9, .slice a0_5_o 1 a0_5_c), (10, .int .i64 1), (11, .int .i64 0), (18, .bool true)]) [(1, { act := .load 6 0 0 [] }), (3, { sp := some (.bool true) })] [1, 4, 7, 9, 10, 11, 18] [3, 5, 6] (fun _ => [(fr4 2).x = (fr4 2).x, ((.bool ((ByteArray.mk #[102]).toList == (ByteArray.mk #[102]).toList)) : Value) = .bool true]) (fun _ => by kernel_rfl) (fun _ => ⟨rfl, (by kernel_rfl), trivial⟩) ?_
  intro _
  refine GS.cond (t := true) rfl rfl (fun _ => ?_) (fun hf => by cases hf)
  refine GS.seq ?_
  refine GS.rg (fun _ => [(4, .pointer (some ⟨(fr1 1).x, 0, none⟩)), (5, .bool true)]) (fun _ => [(5, .cells ((fr1 1).x) 42 (kc19))]) [(0, { act := .load 6 0 0 [] }), (1, { act := .store 0 0 [], key := some 5 })] [4, 5] [5] (fun _ => [(fr4 2).x = (fr4 2).x, (fr1 1).x = (fr1 1).x, ((.agg ((kc19)).toArray) : Value).cells.toList.all Value.oneCell' = true]) (fun _ => by kernel_rfl) (fun _ => ⟨rfl, rfl, rfl, trivial⟩) ?_
  intro _
  have hy := Option.some.inj hm
  subst hy
  refine GS.ret (fn := Try.f15) [5, 0] [.agg ((kc19)).toArray, .bool true] [(fr1 1).x = (fr1 1).x] rfl Try.func15 (by kernel_rfl) ⟨rfl, trivial⟩ (fun w' hs => ?_)
  exact ⟨(), rfl, hs.turnedG (ks := []) rfl rfl⟩

theorem w_pglog_Head_4 (F : Nat) (a0_3_o : Option Addr) (a0_3_c : Nat) (a0_4_o : Option Addr) (a0_4_c : Nat) (a0_5_o : Option Addr) (a0_5_c : Nat) {y : Unit} (hm : m_pglog_Head_4 F = some y) : CallG Try.prog 23 #[.agg ((kc20 a0_3_o a0_3_c a0_4_o a0_4_c a0_5_o a0_5_c)).toArray] (X := Unit) (fun (_ : Unit) => .agg #[.int .i64 1, .int .i64 1]) [] [.rd a0_3_o 7 [(kc12)], .rd a0_4_o 5 [(kc17)], .rd a0_5_o 4 [(kc19)]] (fun (_ : Unit) => []) := by
  intro w hg
  rw [m_pglog_Head_4] at hm
  refine GS.start (S := mayT [] [.rd a0_3_o 7 [(kc12)], .rd a0_4_o 5 [(kc17)], .rd a0_5_o 4 [(kc19)]]) (mem := [(1, .rd a0_3_o 7 [(kc12)]), (2, .rd a0_4_o 5 [(kc17)]), (3, .rd a0_5_o 4 [(kc19)])]) Try.func23 rfl Try.ntmps23 (Nat.le_of_ble_eq_true rfl) (hg.start rfl) ?_
  refine GS.conv (env' := [(0, .agg ((kc20 a0_3_o a0_3_c a0_4_o a0_4_c a0_5_o a0_5_c)).toArray)]) rfl rfl ?_
  refine GS.seq ?_
  refine GS.rz (fun fr1 => [(1, .pointer (some ⟨(fr1 0).x, 0, none⟩)), (2, .pointer (some ⟨(fr1 1).x, 0, none⟩))]) (fun fr1 => [(1, .rd a0_3_o 7 [(kc12)]), (2, .rd a0_4_o 5 [(kc17)]), (3, .rd a0_5_o 4 [(kc19)]), (4, .cells ((fr1 0).x) 28 (kc20 a0_3_o a0_3_c a0_4_o a0_4_c a0_5_o a0_5_c)), (5, .cells ((fr1 1).x) 23 [.int .i64 0, .int .i64 0])]) [(0, { act := .new .var, key := some 4 }), (1, { act := .new .var, key := some 5 })] [1, 2] [1, 2, 3, 4, 5] (fun fr1 => by kernel_rfl) ?_
  intro fr1
  refine GS.seq ?_
  refine GS.seq ?_
  refine GS.rgM (fun _ => [(1, .pointer (some ⟨(fr1 0).x, 0, none⟩)), (2, .pointer (some ⟨(fr1 1).x, 0, none⟩)), (3, .int .i64 1)]) [(1, { act := .load 4 0 0 [] })] [1, 2, 3] [1, 2, 3, 4, 5] (fun _ => [(fr1 0).x = (fr1 0).x]) (fun _ => by kernel_rfl) (fun _ => ⟨rfl, trivial⟩) ?_
  intro _
  refine GS.seq ?_
  refine GS.rzM (fun _ => [(1, .pointer (some ⟨(fr1 0).x, 0, none⟩)), (2, .pointer (some ⟨(fr1 1).x, 0, none⟩)), (3, .int .i64 1), (8, .bool true)]) [] [1, 2, 3, 8] [1, 2, 3, 4, 5] (fun _ => by kernel_rfl) ?_
  intro _
  refine GS.cond (t := true) rfl rfl (fun _ => ?_) (fun hf => by cases hf)
  refine GS.seq ?_
  refine GS.rg (fun _ => [(2, .pointer (some ⟨(fr1 1).x, 0, none⟩))]) (fun _ => [(5, .cells ((fr1 1).x) 23 [.int .i64 1, .int .i64 1])]) [(1, { act := .load 4 0 0 [] }), (4, { act := .idx 1 0 }), (6, { act := .load 1 0 0 [.int .i64 1, .int .i64 1, .bool false, .int .i64 0, .string (ByteArray.mk #[102]), .int .i64 3, .int .i64 1] }), (7, { act := .store 0 0 [], key := some 5 })] [2] [5] (fun _ => [(fr1 0).x = (fr1 0).x, a0_3_o = a0_3_o, 1 = ([(kc12)] : List (List Value)).length, (0 : Int) = ((0 : Nat) : Int), 0 < 1, blk a0_3_o = blk a0_3_o, offs a0_3_o + 0 * 7 = offs a0_3_o + (0 * 7 + 0), ([(kc12)] : List (List Value))[0]? = some [.int .i64 1, .int .i64 1, .bool false, .int .i64 0, .string (ByteArray.mk #[102]), .int .i64 3, .int .i64 1], (fr1 1).x = (fr1 1).x, ((.agg #[.int .i64 1, .int .i64 1]) : Value).cells.toList.all Value.oneCell' = true]) (fun _ => by kernel_rfl) (fun _ => ⟨rfl, rfl, rfl, rfl, (Nat.le_of_ble_eq_true rfl), rfl, rfl, rfl, rfl, rfl, trivial⟩) ?_
  intro _
  have hy := Option.some.inj hm
  subst hy
  refine GS.ret (fn := Try.f23) [5] [.agg #[.int .i64 1, .int .i64 1]] [(fr1 1).x = (fr1 1).x] rfl Try.func23 (by kernel_rfl) ⟨rfl, trivial⟩ (fun w' hs => ?_)
  exact ⟨(), rfl, hs.turnedG (ks := []) rfl rfl⟩

theorem w_cmp_Compare_int__3 (F : Nat) {y : Unit} (hm : m_cmp_Compare_int__3 F = some y) : CallG Try.prog 29 #[.int .i64 1, .int .i64 1] (X := Unit) (fun (_ : Unit) => .int .i64 0) [] [] (fun (_ : Unit) => []) := by
  intro w hg
  rw [m_cmp_Compare_int__3] at hm
  refine GS.start (S := mayT [] []) (mem := []) Try.func29 rfl Try.ntmps29 (Nat.le_of_ble_eq_true rfl) (hg.start rfl) ?_
  refine GS.conv (env' := [(0, .int .i64 1), (1, .int .i64 1)]) rfl rfl ?_
  refine GS.seq ?_
  refine GS.rzM (fun _ => [(0, .int .i64 1), (1, .int .i64 1)]) [] [0, 1] [] (fun _ => by kernel_rfl) ?_
  intro _
  refine GS.seq ?_
  refine bnd_elim hm (fun y3 e4 hm => ?_)
  refine GS.rgM (fun _ => [(0, .int .i64 1), (1, .int .i64 1), (5, .bool false)]) [(1, { act := .call [] (.bool false) })] [0, 1, 5] [] (fun _ => [CallOK Try.prog 46 #[.int .i64 1] (.bool false) []]) (fun _ => by kernel_rfl) (fun _ => ⟨(by have h1 := w_cmp_isNaN_int__2 F  e4; exact h1.ok trivial), trivial⟩) ?_
  intro _
  refine GS.seq ?_
  refine bnd_elim hm (fun y6 e7 hm => ?_)
  refine GS.rgM (fun _ => [(0, .int .i64 1), (1, .int .i64 1), (5, .bool false), (6, .bool false)]) [(1, { act := .call [] (.bool false) })] [0, 1, 5, 6] [] (fun _ => [CallOK Try.prog 46 #[.int .i64 1] (.bool false) []]) (fun _ => by kernel_rfl) (fun _ => ⟨(by have h1 := w_cmp_isNaN_int__2 F  e7; exact h1.ok trivial), trivial⟩) ?_
  intro _
  refine GS.seq ?_
  refine GS.seq ?_
  refine GS.rzM (fun _ => [(0, .int .i64 1), (1, .int .i64 1), (6, .bool false), (11, .bool false)]) [] [0, 1, 6, 11] [] (fun _ => by kernel_rfl) ?_
  intro _
  refine GS.cond (t := false) rfl rfl (fun hf => by cases hf) (fun _ => ?_)
  refine GS.skip ?_
  refine GS.seq ?_
  refine GS.seq ?_
  refine GS.rzM (fun _ => [(0, .int .i64 1), (1, .int .i64 1), (13, .bool false)]) [] [0, 1, 13] [] (fun _ => by kernel_rfl) ?_
  intro _
  refine GS.cond (t := false) rfl rfl (fun hf => by cases hf) (fun _ => ?_)
  refine GS.skip ?_
  refine GS.seq ?_
  refine GS.seq ?_
  refine GS.rzM (fun _ => [(0, .int .i64 1), (1, .int .i64 1), (16, .bool false)]) [] [0, 1, 16] [] (fun _ => by kernel_rfl) ?_
  intro _
  refine GS.cond (t := false) rfl rfl (fun hf => by cases hf) (fun _ => ?_)
  refine GS.skip ?_
  refine GS.seq ?_
  refine GS.seq ?_
  refine GS.rzM (fun _ => [(19, .bool false)]) [] [19] [] (fun _ => by kernel_rfl) ?_
  intro _
  refine GS.cond (t := false) rfl rfl (fun hf => by cases hf) (fun _ => ?_)
  refine GS.skip ?_
  refine GS.seq ?_
  refine GS.rzM (fun _ => [(4, .int .i64 0)]) [] [4] [] (fun _ => by kernel_rfl) ?_
  intro _
  have hy := Option.some.inj hm
  subst hy
  refine GS.ret (fn := Try.f29) [0] [.int .i64 0] [] rfl Try.func29 (by kernel_rfl) trivial (fun w' hs => ?_)
  exact ⟨(), rfl, hs.turnedG (ks := []) rfl rfl⟩

theorem w_cmp_isNaN_int__4 (F : Nat) {y : Unit} (hm : m_cmp_isNaN_int__4 F = some y) : CallG Try.prog 46 #[.int .i64 2] (X := Unit) (fun (_ : Unit) => .bool false) [] [] (fun (_ : Unit) => []) := by
  intro w hg
  rw [m_cmp_isNaN_int__4] at hm
  refine GS.start (S := mayT [] []) (mem := []) Try.func46 rfl Try.ntmps46 (Nat.le_of_ble_eq_true rfl) (hg.start rfl) ?_
  refine GS.conv (env' := [(0, .int .i64 2)]) rfl rfl ?_
  refine GS.seq ?_
  refine GS.rzM (fun _ => [(0, .int .i64 2)]) [] [0] [] (fun _ => by kernel_rfl) ?_
  intro _
  refine GS.seq ?_
  refine GS.rzM (fun _ => [(2, .bool false)]) [] [2] [] (fun _ => by kernel_rfl) ?_
  intro _
  have hy := Option.some.inj hm
  subst hy
  refine GS.ret (fn := Try.f46) [0] [.bool false] [] rfl Try.func46 (by kernel_rfl) trivial (fun w' hs => ?_)
  exact ⟨(), rfl, hs.turnedG (ks := []) rfl rfl⟩

theorem w_cmp_Compare_int__4 (F : Nat) {y : Unit} (hm : m_cmp_Compare_int__4 F = some y) : CallG Try.prog 29 #[.int .i64 2, .int .i64 1] (X := Unit) (fun (_ : Unit) => .int .i64 1) [] [] (fun (_ : Unit) => []) := by
  intro w hg
  rw [m_cmp_Compare_int__4] at hm
  refine GS.start (S := mayT [] []) (mem := []) Try.func29 rfl Try.ntmps29 (Nat.le_of_ble_eq_true rfl) (hg.start rfl) ?_
  refine GS.conv (env' := [(0, .int .i64 2), (1, .int .i64 1)]) rfl rfl ?_
  refine GS.seq ?_
  refine GS.rzM (fun _ => [(0, .int .i64 2), (1, .int .i64 1)]) [] [0, 1] [] (fun _ => by kernel_rfl) ?_
  intro _
  refine GS.seq ?_
  refine bnd_elim hm (fun y3 e4 hm => ?_)
  refine GS.rgM (fun _ => [(0, .int .i64 2), (1, .int .i64 1), (5, .bool false)]) [(1, { act := .call [] (.bool false) })] [0, 1, 5] [] (fun _ => [CallOK Try.prog 46 #[.int .i64 2] (.bool false) []]) (fun _ => by kernel_rfl) (fun _ => ⟨(by have h1 := w_cmp_isNaN_int__4 F  e4; exact h1.ok trivial), trivial⟩) ?_
  intro _
  refine GS.seq ?_
  refine bnd_elim hm (fun y6 e7 hm => ?_)
  refine GS.rgM (fun _ => [(0, .int .i64 2), (1, .int .i64 1), (5, .bool false), (6, .bool false)]) [(1, { act := .call [] (.bool false) })] [0, 1, 5, 6] [] (fun _ => [CallOK Try.prog 46 #[.int .i64 1] (.bool false) []]) (fun _ => by kernel_rfl) (fun _ => ⟨(by have h1 := w_cmp_isNaN_int__2 F  e7; exact h1.ok trivial), trivial⟩) ?_
  intro _
  refine GS.seq ?_
  refine GS.seq ?_
  refine GS.rzM (fun _ => [(0, .int .i64 2), (1, .int .i64 1), (6, .bool false), (11, .bool false)]) [] [0, 1, 6, 11] [] (fun _ => by kernel_rfl) ?_
  intro _
  refine GS.cond (t := false) rfl rfl (fun hf => by cases hf) (fun _ => ?_)
  refine GS.skip ?_
  refine GS.seq ?_
  refine GS.seq ?_
  refine GS.rzM (fun _ => [(0, .int .i64 2), (1, .int .i64 1), (13, .bool false)]) [] [0, 1, 13] [] (fun _ => by kernel_rfl) ?_
  intro _
  refine GS.cond (t := false) rfl rfl (fun hf => by cases hf) (fun _ => ?_)
  refine GS.skip ?_
  refine GS.seq ?_
  refine GS.seq ?_
  refine GS.rzM (fun _ => [(0, .int .i64 2), (1, .int .i64 1), (16, .bool false)]) [] [0, 1, 16] [] (fun _ => by kernel_rfl) ?_
  intro _
  refine GS.cond (t := false) rfl rfl (fun hf => by cases hf) (fun _ => ?_)
  refine GS.skip ?_
  refine GS.seq ?_
  refine GS.seq ?_
  refine GS.rzM (fun _ => [(19, .bool true)]) [] [19] [] (fun _ => by kernel_rfl) ?_
  intro _
  refine GS.cond (t := true) rfl rfl (fun _ => ?_) (fun hf => by cases hf)
  refine GS.seq ?_
  refine GS.rzM (fun _ => [(4, .int .i64 1)]) [] [4] [] (fun _ => by kernel_rfl) ?_
  intro _
  have hy := Option.some.inj hm
  subst hy
  refine GS.ret (fn := Try.f29) [0] [.int .i64 1] [] rfl Try.func29 (by kernel_rfl) trivial (fun w' hs => ?_)
  exact ⟨(), rfl, hs.turnedG (ks := []) rfl rfl⟩

theorem w_pglog_Cmp_3 (F : Nat) {y : Unit} (hm : m_pglog_Cmp_3 F = some y) : CallG Try.prog 7 #[.agg #[.int .i64 1, .int .i64 2], .agg #[.int .i64 1, .int .i64 1]] (X := Unit) (fun (_ : Unit) => .int .i64 1) [] [] (fun (_ : Unit) => []) := by
  intro w hg
  rw [m_pglog_Cmp_3] at hm
  refine GS.start (S := mayT [] []) (mem := []) Try.func7 rfl Try.ntmps7 (Nat.le_of_ble_eq_true rfl) (hg.start rfl) ?_
  refine GS.conv (env' := [(0, .agg #[.int .i64 1, .int .i64 2]), (1, .agg #[.int .i64 1, .int .i64 1])]) rfl rfl ?_
  refine GS.seq ?_
  refine GS.rz (fun fr1 => [(2, .pointer (some ⟨(fr1 0).x, 0, none⟩)), (3, .pointer (some ⟨(fr1 1).x, 0, none⟩))]) (fun fr1 => [(1, .cells ((fr1 0).x) 23 [.int .i64 1, .int .i64 2]), (2, .cells ((fr1 1).x) 23 [.int .i64 1, .int .i64 1])]) [(0, { act := .new .var, key := some 1 }), (1, { act := .new .var, key := some 2 })] [2, 3] [1, 2] (fun fr1 => by kernel_rfl) ?_
  intro fr1
  refine GS.seq ?_
  refine GS.seq ?_
  refine bnd_elim hm (fun y3 e4 hm => ?_)
  refine GS.rgM (fun _ => [(2, .pointer (some ⟨(fr1 0).x, 0, none⟩)), (3, .pointer (some ⟨(fr1 1).x, 0, none⟩)), (5, .int .i64 0)]) [(1, { act := .load 1 0 0 [] }), (3, { act := .load 2 0 0 [] }), (4, { act := .call [] (.int .i64 0) })] [2, 3, 5] [1, 2] (fun _ => [(fr1 0).x = (fr1 0).x, (fr1 1).x = (fr1 1).x, CallOK Try.prog 29 #[.int .i64 1, .int .i64 1] (.int .i64 0) []]) (fun _ => by kernel_rfl) (fun _ => ⟨rfl, rfl, (by have h1 := w_cmp_Compare_int__3 F  e4; exact h1.ok trivial), trivial⟩) ?_
  intro _
  refine GS.seq ?_
  refine GS.rzM (fun _ => [(2, .pointer (some ⟨(fr1 0).x, 0, none⟩)), (3, .pointer (some ⟨(fr1 1).x, 0, none⟩)), (5, .int .i64 0), (12, .bool false)]) [] [2, 3, 5, 12] [1, 2] (fun _ => by kernel_rfl) ?_
  intro _
  refine GS.cond (t := false) rfl rfl (fun hf => by cases hf) (fun _ => ?_)
  refine GS.skip ?_
  refine GS.seq ?_
  refine bnd_elim hm (fun y7 e8 hm => ?_)
  refine GS.rg (fun _ => [(4, .int .i64 1)]) (fun _ => []) [(1, { act := .load 1 0 0 [] }), (3, { act := .load 2 0 0 [] }), (4, { act := .call [] (.int .i64 1) })] [4] [] (fun _ => [(fr1 0).x = (fr1 0).x, (fr1 1).x = (fr1 1).x, CallOK Try.prog 29 #[.int .i64 2, .int .i64 1] (.int .i64 1) []]) (fun _ => by kernel_rfl) (fun _ => ⟨rfl, rfl, (by have h1 := w_cmp_Compare_int__4 F  e8; exact h1.ok trivial), trivial⟩) ?_
  intro _
  have hy := Option.some.inj hm
  subst hy
  refine GS.ret (fn := Try.f7) [0] [.int .i64 1] [] rfl Try.func7 (by kernel_rfl) trivial (fun w' hs => ?_)
  exact ⟨(), rfl, hs.turnedG (ks := []) rfl rfl⟩

theorem w_pglog_Copy_4 (F : Nat) (a0_3_o : Option Addr) (a0_3_c : Nat) (a0_4_o : Option Addr) (a0_4_c : Nat) (a0_5_o : Option Addr) (a0_5_c : Nat) {y : Unit} (hm : m_pglog_Copy_4 F = some y) : CallG Try.prog 20 #[.agg ((kc20 a0_3_o a0_3_c a0_4_o a0_4_c a0_5_o a0_5_c)).toArray] (X := Option Addr × Nat × Option Addr × Nat × Option Addr × Nat) (fun ⟨x0, x1, x2, x3, x4, x5⟩ => .agg ((kc20 x0 x1 x2 x3 x4 x5)).toArray) [] [.rd a0_3_o 7 [(kc12)], .rd a0_4_o 5 [(kc17)], .rd a0_5_o 4 [(kc19)]] (fun ⟨x0, x1, x2, x3, x4, x5⟩ => [.osl x0 x1 52 7 [(kc12)], .osl x2 x3 47 5 [(kc17)], .osl x4 x5 42 4 [(kc19)]]) := by
  intro w hg
  rw [m_pglog_Copy_4] at hm
  refine GS.start (S := mayT [] [.rd a0_3_o 7 [(kc12)], .rd a0_4_o 5 [(kc17)], .rd a0_5_o 4 [(kc19)]]) (mem := [(1, .rd a0_3_o 7 [(kc12)]), (2, .rd a0_4_o 5 [(kc17)]), (3, .rd a0_5_o 4 [(kc19)])]) Try.func20 rfl Try.ntmps20 (Nat.le_of_ble_eq_true rfl) (hg.start rfl) ?_
  refine GS.conv (env' := [(0, .agg ((kc20 a0_3_o a0_3_c a0_4_o a0_4_c a0_5_o a0_5_c)).toArray)]) rfl rfl ?_
  refine GS.seq ?_
  refine GS.rz (fun fr1 => [(1, .pointer (some ⟨(fr1 0).x, 0, none⟩)), (2, .pointer (some ⟨(fr1 1).x, 0, none⟩))]) (fun fr1 => [(1, .rd a0_3_o 7 [(kc12)]), (2, .rd a0_4_o 5 [(kc17)]), (3, .rd a0_5_o 4 [(kc19)]), (4, .cells ((fr1 0).x) 28 (kc20 a0_3_o a0_3_c a0_4_o a0_4_c a0_5_o a0_5_c)), (5, .cells ((fr1 1).x) 28 (kc0))]) [(0, { act := .new .var, key := some 4 }), (1, { act := .new .var, key := some 5 })] [1, 2] [1, 2, 3, 4, 5] (fun fr1 => by kernel_rfl) ?_
  intro fr1
  refine GS.seq ?_
  refine GS.rg (fun fr2 => [(1, .pointer (some ⟨(fr1 0).x, 0, none⟩)), (2, .pointer (some ⟨(fr1 1).x, 0, none⟩))]) (fun fr2 => [(2, .rd a0_4_o 5 [(kc17)]), (3, .rd a0_5_o 4 [(kc19)]), (4, .cells ((fr1 0).x) 28 (kc20 ((fr2 2).ob) ((fr2 2).cap) a0_4_o a0_4_c a0_5_o a0_5_c)), (5, .cells ((fr1 1).x) 28 (kc0)), (6, .osl ((fr2 2).ob) ((fr2 2).cap) 52 7 ([(kc12)] : List (List Value)))]) [(1, { act := .load 4 0 0 [] }), (2, { act := .app (some 1), key := some 6, spf := some (fun f => .slice (f.ob) 1 (f.cap)) }), (4, { act := .store 0 0 [], key := some 4 })] [1, 2] [2, 3, 4, 5, 6] (fun fr2 => [(fr1 0).x = (fr1 0).x, a0_3_o = a0_3_o, 1 = ([(kc12)] : List (List Value)).length, 0 = 0, 0 = 0, ([(kc12)] : List (List Value)).length * (64 + 1) ≤ 70368744177664, ((.slice ((fr2 2).ob) (0 + ([(kc12)] : List (List Value)).length) ((fr2 2).cap)) : Value) = .slice ((fr2 2).ob) 1 ((fr2 2).cap), (fr1 0).x = (fr1 0).x, ((.slice ((fr2 2).ob) 1 ((fr2 2).cap)) : Value).cells.toList.all Value.oneCell' = true]) (fun fr2 => by kernel_rfl) (fun fr2 => ⟨rfl, rfl, rfl, rfl, rfl, (show 1 * (64 + 1) ≤ 70368744177664 by decide), rfl, rfl, rfl, trivial⟩) ?_
  intro fr2
  refine GS.conv (mem' := [(2, .rd a0_4_o 5 [(kc17)]), (3, .rd a0_5_o 4 [(kc19)]), (4, .cells ((fr1 0).x) 28 (kc20 ((fr2 2).ob) ((fr2 2).cap) a0_4_o a0_4_c a0_5_o a0_5_c)), (5, .cells ((fr1 1).x) 28 (kc0)), (6, .osl ((fr2 2).ob) ((fr2 2).cap) 52 7 [(kc12)])]) rfl (congrArg (fun rr : List (List Value) => ([(2, .rd a0_4_o 5 [(kc17)]), (3, .rd a0_5_o 4 [(kc19)]), (4, .cells ((fr1 0).x) 28 (kc20 ((fr2 2).ob) ((fr2 2).cap) a0_4_o a0_4_c a0_5_o a0_5_c)), (5, .cells ((fr1 1).x) 28 (kc0)), (6, .osl ((fr2 2).ob) ((fr2 2).cap) 52 7 rr)] : List (Nat × Ent))) (show ([(kc12)] : List (List Value)) = ([(kc12)] : List (List Value)) from rfl)) ?_
  refine GS.seq ?_
  refine GS.rg (fun fr3 => [(1, .pointer (some ⟨(fr1 0).x, 0, none⟩)), (2, .pointer (some ⟨(fr1 1).x, 0, none⟩))]) (fun fr3 => [(3, .rd a0_5_o 4 [(kc19)]), (4, .cells ((fr1 0).x) 28 (kc20 ((fr2 2).ob) ((fr2 2).cap) ((fr3 2).ob) ((fr3 2).cap) a0_5_o a0_5_c)), (5, .cells ((fr1 1).x) 28 (kc0)), (6, .osl ((fr2 2).ob) ((fr2 2).cap) 52 7 [(kc12)]), (7, .osl ((fr3 2).ob) ((fr3 2).cap) 47 5 ([(kc17)] : List (List Value)))]) [(1, { act := .load 4 0 0 [] }), (2, { act := .app (some 2), key := some 7, spf := some (fun f => .slice (f.ob) 1 (f.cap)) }), (4, { act := .store 0 0 [], key := some 4 })] [1, 2] [3, 4, 5, 6, 7] (fun fr3 => [(fr1 0).x = (fr1 0).x, a0_4_o = a0_4_o, 1 = ([(kc17)] : List (List Value)).length, 0 = 0, 0 = 0, ([(kc17)] : List (List Value)).length * (40 + 1) ≤ 70368744177664, ((.slice ((fr3 2).ob) (0 + ([(kc17)] : List (List Value)).length) ((fr3 2).cap)) : Value) = .slice ((fr3 2).ob) 1 ((fr3 2).cap), (fr1 0).x = (fr1 0).x, ((.slice ((fr3 2).ob) 1 ((fr3 2).cap)) : Value).cells.toList.all Value.oneCell' = true]) (fun fr3 => by kernel_rfl) (fun fr3 => ⟨rfl, rfl, rfl, rfl, rfl, (show 1 * (40 + 1) ≤ 70368744177664 by decide), rfl, rfl, rfl, trivial⟩) ?_
  intro fr3
  refine GS.conv (mem' := [(3, .rd a0_5_o 4 [(kc19)]), (4, .cells ((fr1 0).x) 28 (kc20 ((fr2 2).ob) ((fr2 2).cap) ((fr3 2).ob) ((fr3 2).cap) a0_5_o a0_5_c)), (5, .cells ((fr1 1).x) 28 (kc0)), (6, .osl ((fr2 2).ob) ((fr2 2).cap) 52 7 [(kc12)]), (7, .osl ((fr3 2).ob) ((fr3 2).cap) 47 5 [(kc17)])]) rfl (congrArg (fun rr : List (List Value) => ([(3, .rd a0_5_o 4 [(kc19)]), (4, .cells ((fr1 0).x) 28 (kc20 ((fr2 2).ob) ((fr2 2).cap) ((fr3 2).ob) ((fr3 2).cap) a0_5_o a0_5_c)), (5, .cells ((fr1 1).x) 28 (kc0)), (6, .osl ((fr2 2).ob) ((fr2 2).cap) 52 7 [(kc12)]), (7, .osl ((fr3 2).ob) ((fr3 2).cap) 47 5 rr)] : List (Nat × Ent))) (show ([(kc17)] : List (List Value)) = ([(kc17)] : List (List Value)) from rfl)) ?_
  refine GS.seq ?_
  refine GS.rg (fun fr4 => [(1, .pointer (some ⟨(fr1 0).x, 0, none⟩)), (2, .pointer (some ⟨(fr1 1).x, 0, none⟩))]) (fun fr4 => [(4, .cells ((fr1 0).x) 28 (kc20 ((fr2 2).ob) ((fr2 2).cap) ((fr3 2).ob) ((fr3 2).cap) ((fr4 2).ob) ((fr4 2).cap))), (5, .cells ((fr1 1).x) 28 (kc0)), (6, .osl ((fr2 2).ob) ((fr2 2).cap) 52 7 [(kc12)]), (7, .osl ((fr3 2).ob) ((fr3 2).cap) 47 5 [(kc17)]), (8, .osl ((fr4 2).ob) ((fr4 2).cap) 42 4 ([(kc19)] : List (List Value)))]) [(1, { act := .load 4 0 0 [] }), (2, { act := .app (some 3), key := some 8, spf := some (fun f => .slice (f.ob) 1 (f.cap)) }), (4, { act := .store 0 0 [], key := some 4 })] [1, 2] [4, 5, 6, 7, 8] (fun fr4 => [(fr1 0).x = (fr1 0).x, a0_5_o = a0_5_o, 1 = ([(kc19)] : List (List Value)).length, 0 = 0, 0 = 0, ([(kc19)] : List (List Value)).length * (40 + 1) ≤ 70368744177664, ((.slice ((fr4 2).ob) (0 + ([(kc19)] : List (List Value)).length) ((fr4 2).cap)) : Value) = .slice ((fr4 2).ob) 1 ((fr4 2).cap), (fr1 0).x = (fr1 0).x, ((.slice ((fr4 2).ob) 1 ((fr4 2).cap)) : Value).cells.toList.all Value.oneCell' = true]) (fun fr4 => by kernel_rfl) (fun fr4 => ⟨rfl, rfl, rfl, rfl, rfl, (show 1 * (40 + 1) ≤ 70368744177664 by decide), rfl, rfl, rfl, trivial⟩) ?_
  intro fr4
  refine GS.conv (mem' := [(4, .cells ((fr1 0).x) 28 (kc20 ((fr2 2).ob) ((fr2 2).cap) ((fr3 2).ob) ((fr3 2).cap) ((fr4 2).ob) ((fr4 2).cap))), (5, .cells ((fr1 1).x) 28 (kc0)), (6, .osl ((fr2 2).ob) ((fr2 2).cap) 52 7 [(kc12)]), (7, .osl ((fr3 2).ob) ((fr3 2).cap) 47 5 [(kc17)]), (8, .osl ((fr4 2).ob) ((fr4 2).cap) 42 4 [(kc19)])]) rfl (congrArg (fun rr : List (List Value) => ([(4, .cells ((fr1 0).x) 28 (kc20 ((fr2 2).ob) ((fr2 2).cap) ((fr3 2).ob) ((fr3 2).cap) ((fr4 2).ob) ((fr4 2).cap))), (5, .cells ((fr1 1).x) 28 (kc0)), (6, .osl ((fr2 2).ob) ((fr2 2).cap) 52 7 [(kc12)]), (7, .osl ((fr3 2).ob) ((fr3 2).cap) 47 5 [(kc17)]), (8, .osl ((fr4 2).ob) ((fr4 2).cap) 42 4 rr)] : List (Nat × Ent))) (show ([(kc19)] : List (List Value)) = ([(kc19)] : List (List Value)) from rfl)) ?_
  refine GS.seq ?_
  refine GS.rg (fun _ => [(2, .pointer (some ⟨(fr1 1).x, 0, none⟩))]) (fun _ => [(5, .cells ((fr1 1).x) 28 (kc20 ((fr2 2).ob) ((fr2 2).cap) ((fr3 2).ob) ((fr3 2).cap) ((fr4 2).ob) ((fr4 2).cap))), (6, .osl ((fr2 2).ob) ((fr2 2).cap) 52 7 [(kc12)]), (7, .osl ((fr3 2).ob) ((fr3 2).cap) 47 5 [(kc17)]), (8, .osl ((fr4 2).ob) ((fr4 2).cap) 42 4 [(kc19)])]) [(0, { act := .load 4 0 0 [] }), (1, { act := .store 0 0 [], key := some 5 })] [2] [5, 6, 7, 8] (fun _ => [(fr1 0).x = (fr1 0).x, (fr1 1).x = (fr1 1).x, ((.agg ((kc20 ((fr2 2).ob) ((fr2 2).cap) ((fr3 2).ob) ((fr3 2).cap) ((fr4 2).ob) ((fr4 2).cap))).toArray) : Value).cells.toList.all Value.oneCell' = true]) (fun _ => by kernel_rfl) (fun _ => ⟨rfl, rfl, rfl, trivial⟩) ?_
  intro _
  have hy := Option.some.inj hm
  subst hy
  refine GS.ret (fn := Try.f20) [5] [.agg ((kc20 ((fr2 2).ob) ((fr2 2).cap) ((fr3 2).ob) ((fr3 2).cap) ((fr4 2).ob) ((fr4 2).cap))).toArray] [(fr1 1).x = (fr1 1).x] rfl Try.func20 (by kernel_rfl) ⟨rfl, trivial⟩ (fun w' hs => ?_)
  exact ⟨⟨(fr2 2).ob, (fr2 2).cap, (fr3 2).ob, (fr3 2).cap, (fr4 2).ob, (fr4 2).cap⟩, rfl, hs.turnedG (ks := [6, 7, 8]) rfl rfl⟩

theorem w_pglog_lastClient_2 (F : Nat) {y : Unit} (hm : m_pglog_lastClient_2 F = some y) : CallG Try.prog 37 #[.agg ((kc17)).toArray] (X := Unit) (fun (_ : Unit) => .int .i64 3) [] [] (fun (_ : Unit) => []) := by
  intro w hg
  rw [m_pglog_lastClient_2] at hm
  refine GS.start (S := mayT [] []) (mem := []) Try.func37 rfl Try.ntmps37 (Nat.le_of_ble_eq_true rfl) (hg.start rfl) ?_
  refine GS.conv (env' := [(0, .agg ((kc17)).toArray)]) rfl rfl ?_
  refine GS.seq ?_
  refine GS.rz (fun fr1 => [(1, .pointer (some ⟨(fr1 0).x, 0, none⟩))]) (fun fr1 => [(1, .cells ((fr1 0).x) 47 (kc17))]) [(0, { act := .new .var, key := some 1 })] [1] [1] (fun fr1 => by kernel_rfl) ?_
  intro fr1
  refine GS.seq ?_
  refine GS.rg (fun _ => [(2, .int .i64 3)]) (fun _ => []) [(1, { act := .load 1 0 0 [] })] [2] [] (fun _ => [(fr1 0).x = (fr1 0).x]) (fun _ => by kernel_rfl) (fun _ => ⟨rfl, trivial⟩) ?_
  intro _
  have hy := Option.some.inj hm
  subst hy
  refine GS.ret (fn := Try.f37) [0] [.int .i64 3] [] rfl Try.func37 (by kernel_rfl) trivial (fun w' hs => ?_)
  exact ⟨(), rfl, hs.turnedG (ks := []) rfl rfl⟩

theorem w_cmp_isNaN_int__5 (F : Nat) {y : Unit} (hm : m_cmp_isNaN_int__5 F = some y) : CallG Try.prog 46 #[.int .i64 3] (X := Unit) (fun (_ : Unit) => .bool false) [] [] (fun (_ : Unit) => []) := by
  intro w hg
  rw [m_cmp_isNaN_int__5] at hm
  refine GS.start (S := mayT [] []) (mem := []) Try.func46 rfl Try.ntmps46 (Nat.le_of_ble_eq_true rfl) (hg.start rfl) ?_
  refine GS.conv (env' := [(0, .int .i64 3)]) rfl rfl ?_
  refine GS.seq ?_
  refine GS.rzM (fun _ => [(0, .int .i64 3)]) [] [0] [] (fun _ => by kernel_rfl) ?_
  intro _
  refine GS.seq ?_
  refine GS.rzM (fun _ => [(2, .bool false)]) [] [2] [] (fun _ => by kernel_rfl) ?_
  intro _
  have hy := Option.some.inj hm
  subst hy
  refine GS.ret (fn := Try.f46) [0] [.bool false] [] rfl Try.func46 (by kernel_rfl) trivial (fun w' hs => ?_)
  exact ⟨(), rfl, hs.turnedG (ks := []) rfl rfl⟩

theorem w_cmp_Compare_int__5 (F : Nat) {y : Unit} (hm : m_cmp_Compare_int__5 F = some y) : CallG Try.prog 29 #[.int .i64 3, .int .i64 3] (X := Unit) (fun (_ : Unit) => .int .i64 0) [] [] (fun (_ : Unit) => []) := by
  intro w hg
  rw [m_cmp_Compare_int__5] at hm
  refine GS.start (S := mayT [] []) (mem := []) Try.func29 rfl Try.ntmps29 (Nat.le_of_ble_eq_true rfl) (hg.start rfl) ?_
  refine GS.conv (env' := [(0, .int .i64 3), (1, .int .i64 3)]) rfl rfl ?_
  refine GS.seq ?_
  refine GS.rzM (fun _ => [(0, .int .i64 3), (1, .int .i64 3)]) [] [0, 1] [] (fun _ => by kernel_rfl) ?_
  intro _
  refine GS.seq ?_
  refine bnd_elim hm (fun y3 e4 hm => ?_)
  refine GS.rgM (fun _ => [(0, .int .i64 3), (1, .int .i64 3), (5, .bool false)]) [(1, { act := .call [] (.bool false) })] [0, 1, 5] [] (fun _ => [CallOK Try.prog 46 #[.int .i64 3] (.bool false) []]) (fun _ => by kernel_rfl) (fun _ => ⟨(by have h1 := w_cmp_isNaN_int__5 F  e4; exact h1.ok trivial), trivial⟩) ?_
  intro _
  refine GS.seq ?_
  refine bnd_elim hm (fun y6 e7 hm => ?_)
  refine GS.rgM (fun _ => [(0, .int .i64 3), (1, .int .i64 3), (5, .bool false), (6, .bool false)]) [(1, { act := .call [] (.bool false) })] [0, 1, 5, 6] [] (fun _ => [CallOK Try.prog 46 #[.int .i64 3] (.bool false) []]) (fun _ => by kernel_rfl) (fun _ => ⟨(by have h1 := w_cmp_isNaN_int__5 F  e7; exact h1.ok trivial), trivial⟩) ?_
  intro _
  refine GS.seq ?_
  refine GS.seq ?_
  refine GS.rzM (fun _ => [(0, .int .i64 3), (1, .int .i64 3), (6, .bool false), (11, .bool false)]) [] [0, 1, 6, 11] [] (fun _ => by kernel_rfl) ?_
  intro _
  refine GS.cond (t := false) rfl rfl (fun hf => by cases hf) (fun _ => ?_)
  refine GS.skip ?_
  refine GS.seq ?_
  refine GS.seq ?_
  refine GS.rzM (fun _ => [(0, .int .i64 3), (1, .int .i64 3), (13, .bool false)]) [] [0, 1, 13] [] (fun _ => by kernel_rfl) ?_
  intro _
  refine GS.cond (t := false) rfl rfl (fun hf => by cases hf) (fun _ => ?_)
  refine GS.skip ?_
  refine GS.seq ?_
  refine GS.seq ?_
  refine GS.rzM (fun _ => [(0, .int .i64 3), (1, .int .i64 3), (16, .bool false)]) [] [0, 1, 16] [] (fun _ => by kernel_rfl) ?_
  intro _
  refine GS.cond (t := false) rfl rfl (fun hf => by cases hf) (fun _ => ?_)
  refine GS.skip ?_
  refine GS.seq ?_
  refine GS.seq ?_
  refine GS.rzM (fun _ => [(19, .bool false)]) [] [19] [] (fun _ => by kernel_rfl) ?_
  intro _
  refine GS.cond (t := false) rfl rfl (fun hf => by cases hf) (fun _ => ?_)
  refine GS.skip ?_
  refine GS.seq ?_
  refine GS.rzM (fun _ => [(4, .int .i64 0)]) [] [4] [] (fun _ => by kernel_rfl) ?_
  intro _
  have hy := Option.some.inj hm
  subst hy
  refine GS.ret (fn := Try.f29) [0] [.int .i64 0] [] rfl Try.func29 (by kernel_rfl) trivial (fun w' hs => ?_)
  exact ⟨(), rfl, hs.turnedG (ks := []) rfl rfl⟩

theorem w_pglog_look_api_Last_int__1_2 (F : Nat) (a2b : Nat) {y : Unit} (hm : m_pglog_look_api_Last_int__1_2 F = some y) : CallG Try.prog 48 #[.agg ((kc17)).toArray, .int .i64 3, .pointer (some ⟨a2b, 0, none⟩)] (X := Unit) (fun (_ : Unit) => .int .i64 0) [] [.rd (some ⟨a2b, 0, none⟩) 1 [[.func (.func 37) #[] #[]]]] (fun (_ : Unit) => []) := by
  intro w hg
  rw [m_pglog_look_api_Last_int__1_2] at hm
  refine GS.start (S := mayT [] [.rd (some ⟨a2b, 0, none⟩) 1 [[.func (.func 37) #[] #[]]]]) (mem := [(1, .rd (some ⟨a2b, 0, none⟩) 1 [[.func (.func 37) #[] #[]]])]) Try.func48 rfl Try.ntmps48 (Nat.le_of_ble_eq_true rfl) (hg.start rfl) ?_
  refine GS.conv (env' := [(0, .agg ((kc17)).toArray), (1, .int .i64 3), (2, .pointer (some ⟨a2b, 0, none⟩))]) rfl rfl ?_
  refine GS.seq ?_
  refine GS.rz (fun fr1 => [(1, .int .i64 3), (2, .pointer (some ⟨a2b, 0, none⟩)), (3, .pointer (some ⟨(fr1 0).x, 0, none⟩))]) (fun fr1 => [(1, .rd (some ⟨a2b, 0, none⟩) 1 [[.func (.func 37) #[] #[]]]), (2, .cells ((fr1 0).x) 47 (kc17))]) [(0, { act := .new .var, key := some 2 })] [1, 2, 3] [1, 2] (fun fr1 => by kernel_rfl) ?_
  intro fr1
  refine GS.seq ?_
  refine bnd_elim hm (fun y3 e4 hm => ?_)
  refine bnd_elim hm (fun y5 e6 hm => ?_)
  refine GS.rg (fun _ => [(5, .int .i64 0)]) (fun _ => []) [(0, { act := .load 1 0 0 [.func (.func 37) #[] #[]] }), (1, { act := .load 2 0 0 [] }), (2, { act := .call [] (.int .i64 3) }), (4, { act := .call [] (.int .i64 0) })] [5] [] (fun _ => [a2b = blk (some ⟨a2b, 0, none⟩), 0 = offs (some ⟨a2b, 0, none⟩) + (0 * 1 + 0), ([[.func (.func 37) #[] #[]]] : List (List Value))[0]? = some [.func (.func 37) #[] #[]], (fr1 0).x = (fr1 0).x, CallOK Try.prog 37 #[.agg ((kc17)).toArray] (.int .i64 3) [], CallOK Try.prog 29 #[.int .i64 3, .int .i64 3] (.int .i64 0) []]) (fun _ => by kernel_rfl) (fun _ => ⟨rfl, rfl, rfl, rfl, (by have h1 := w_pglog_lastClient_2 F  e4; exact h1.ok trivial), (by have h1 := w_cmp_Compare_int__5 F  e6; exact h1.ok trivial), trivial⟩) ?_
  intro _
  have hy := Option.some.inj hm
  subst hy
  refine GS.ret (fn := Try.f48) [0] [.int .i64 0] [] rfl Try.func48 (by kernel_rfl) trivial (fun w' hs => ?_)
  exact ⟨(), rfl, hs.turnedG (ks := []) rfl rfl⟩

theorem w_slices_BinarySearchFunc___api_Last_api_Last_int__3 (F : Nat) (a0_o : Option Addr) (a0_c : Nat) (a2c0b : Nat) {y : Unit} (hm : m_slices_BinarySearchFunc___api_Last_api_Last_int__3 F = some y) : CallG Try.prog 47 #[.slice a0_o 1 a0_c, .int .i64 3, .func (.func 48) #[] #[.pointer (some ⟨a2c0b, 0, none⟩)]] (X := Unit) (fun (_ : Unit) => .tuple #[.int .i64 0, .bool true]) [] [.rd a0_o 5 [(kc17)], .rd (some ⟨a2c0b, 0, none⟩) 1 [[.func (.func 37) #[] #[]]]] (fun (_ : Unit) => []) := by
  intro w hg
  rw [m_slices_BinarySearchFunc___api_Last_api_Last_int__3] at hm
  refine GS.start (S := mayT [] [.rd a0_o 5 [(kc17)], .rd (some ⟨a2c0b, 0, none⟩) 1 [[.func (.func 37) #[] #[]]]]) (mem := [(1, .rd a0_o 5 [(kc17)]), (2, .rd (some ⟨a2c0b, 0, none⟩) 1 [[.func (.func 37) #[] #[]]])]) Try.func47 rfl Try.ntmps47 (Nat.le_of_ble_eq_true rfl) (hg.start rfl) ?_
  refine GS.conv (env' := [(0, .slice a0_o 1 a0_c), (1, .int .i64 3), (2, .func (.func 48) #[] #[.pointer (some ⟨a2c0b, 0, none⟩)])]) rfl rfl ?_
  refine GS.seq ?_
  refine GS.rzM (fun _ => [(0, .slice a0_o 1 a0_c), (1, .int .i64 3), (2, .func (.func 48) #[] #[.pointer (some ⟨a2c0b, 0, none⟩)])]) [] [0, 1, 2] [1, 2] (fun _ => by kernel_rfl) ?_
  intro _
  refine GS.seq ?_
  refine GS.rzM (fun _ => [(0, .slice a0_o 1 a0_c), (1, .int .i64 3), (2, .func (.func 48) #[] #[.pointer (some ⟨a2c0b, 0, none⟩)]), (8, .int .i64 1)]) [] [0, 1, 2, 8] [1, 2] (fun _ => by kernel_rfl) ?_
  intro _
  refine GS.seq ?_
  refine GS.rzM (fun _ => [(0, .slice a0_o 1 a0_c), (1, .int .i64 3), (2, .func (.func 48) #[] #[.pointer (some ⟨a2c0b, 0, none⟩)]), (8, .int .i64 1), (9, .int .i64 0), (10, .int .i64 1)]) [] [0, 1, 2, 8, 9, 10] [1, 2] (fun _ => by kernel_rfl) ?_
  intro _
  refine GS.seq ?_
  refine GS.block ?_
  refine GS.loop ?_
  refine GS.seq ?_
  refine GS.seq ?_
  refine GS.rzM (fun _ => [(0, .slice a0_o 1 a0_c), (1, .int .i64 3), (2, .func (.func 48) #[] #[.pointer (some ⟨a2c0b, 0, none⟩)]), (8, .int .i64 1), (9, .int .i64 0), (10, .int .i64 1), (17, .bool true)]) [] [0, 1, 2, 8, 9, 10, 17] [1, 2] (fun _ => by kernel_rfl) ?_
  intro _
  refine GS.cond (t := true) rfl rfl (fun _ => ?_) (fun hf => by cases hf)
  refine GS.skip ?_
  refine GS.block ?_
  refine GS.seq ?_
  refine GS.rzM (fun _ => [(0, .slice a0_o 1 a0_c), (1, .int .i64 3), (2, .func (.func 48) #[] #[.pointer (some ⟨a2c0b, 0, none⟩)]), (8, .int .i64 1), (9, .int .i64 0), (10, .int .i64 1), (11, .int .i64 0)]) [] [0, 1, 2, 8, 9, 10, 11] [1, 2] (fun _ => by kernel_rfl) ?_
  intro _
  refine GS.seq ?_
  refine bnd_elim hm (fun y7 e8 hm => ?_)
  refine GS.rgM (fun _ => [(0, .slice a0_o 1 a0_c), (1, .int .i64 3), (2, .func (.func 48) #[] #[.pointer (some ⟨a2c0b, 0, none⟩)]), (8, .int .i64 1), (9, .int .i64 0), (10, .int .i64 1), (11, .int .i64 0), (31, .bool false)]) [(3, { act := .idx 1 0 }), (4, { act := .load 1 0 0 [.int .i64 3, .int .i64 1, .int .i64 0, .int .i64 1, .int .i64 1] }), (6, { act := .call [2] (.int .i64 0) })] [0, 1, 2, 8, 9, 10, 11, 31] [1, 2] (fun _ => [a0_o = a0_o, 1 = ([(kc17)] : List (List Value)).length, (0 : Int) = ((0 : Nat) : Int), 0 < 1, blk a0_o = blk a0_o, offs a0_o + 0 * 5 = offs a0_o + (0 * 5 + 0), ([(kc17)] : List (List Value))[0]? = some [.int .i64 3, .int .i64 1, .int .i64 0, .int .i64 1, .int .i64 1], CallOK Try.prog 48 #[.agg ((kc17)).toArray, .int .i64 3, .pointer (some ⟨a2c0b, 0, none⟩)] (.int .i64 0) [some (.rd (some ⟨a2c0b, 0, none⟩) 1 [[.func (.func 37) #[] #[]]])]]) (fun _ => by kernel_rfl) (fun _ => ⟨rfl, rfl, rfl, (Nat.le_of_ble_eq_true rfl), rfl, rfl, rfl, (by have h1 := w_pglog_look_api_Last_int__1_2 F a2c0b e8; exact h1.ok ⟨(.inl ⟨.rd (some ⟨a2c0b, 0, none⟩) 1 [[.func (.func 37) #[] #[]]], .head _, Cov.refl _⟩), trivial⟩), trivial⟩) ?_
  intro _
  refine GS.cond (t := false) rfl rfl (fun hf => by cases hf) (fun _ => ?_)
  refine GS.rzM (fun _ => [(0, .slice a0_o 1 a0_c), (1, .int .i64 3), (2, .func (.func 48) #[] #[.pointer (some ⟨a2c0b, 0, none⟩)]), (8, .int .i64 1), (9, .int .i64 0), (10, .int .i64 0)]) [] [0, 1, 2, 8, 9, 10] [1, 2] (fun _ => by kernel_rfl) ?_
  intro _
  refine GS.inBlock ?_
  refine GS.inLoop ?_
  refine GS.seq ?_
  refine GS.seq ?_
  refine GS.rzM (fun _ => [(0, .slice a0_o 1 a0_c), (1, .int .i64 3), (2, .func (.func 48) #[] #[.pointer (some ⟨a2c0b, 0, none⟩)]), (8, .int .i64 1), (9, .int .i64 0), (10, .int .i64 0), (17, .bool false)]) [] [0, 1, 2, 8, 9, 10, 17] [1, 2] (fun _ => by kernel_rfl) ?_
  intro _
  refine GS.cond (t := false) rfl rfl (fun hf => by cases hf) (fun _ => ?_)
  refine GS.exit rfl ?_
  refine GS.seq ?_
  refine bnd_elim hm (fun y12 e13 hm => ?_)
  refine GS.rg (fun _ => [(6, .int .i64 0), (7, .bool true)]) (fun _ => []) [(8, { act := .idx 1 0 }), (9, { act := .load 1 0 0 [.int .i64 3, .int .i64 1, .int .i64 0, .int .i64 1, .int .i64 1] }), (11, { act := .call [2] (.int .i64 0) })] [6, 7] [] (fun _ => [a0_o = a0_o, 1 = ([(kc17)] : List (List Value)).length, (0 : Int) = ((0 : Nat) : Int), 0 < 1, blk a0_o = blk a0_o, offs a0_o + 0 * 5 = offs a0_o + (0 * 5 + 0), ([(kc17)] : List (List Value))[0]? = some [.int .i64 3, .int .i64 1, .int .i64 0, .int .i64 1, .int .i64 1], CallOK Try.prog 48 #[.agg ((kc17)).toArray, .int .i64 3, .pointer (some ⟨a2c0b, 0, none⟩)] (.int .i64 0) [some (.rd (some ⟨a2c0b, 0, none⟩) 1 [[.func (.func 37) #[] #[]]])]]) (fun _ => by kernel_rfl) (fun _ => ⟨rfl, rfl, rfl, (Nat.le_of_ble_eq_true rfl), rfl, rfl, rfl, (by have h1 := w_pglog_look_api_Last_int__1_2 F a2c0b e13; exact h1.ok ⟨(.inl ⟨.rd (some ⟨a2c0b, 0, none⟩) 1 [[.func (.func 37) #[] #[]]], .head _, Cov.refl _⟩), trivial⟩), trivial⟩) ?_
  intro _
  have hy := Option.some.inj hm
  subst hy
  refine GS.ret (fn := Try.f47) [0, 0] [.int .i64 0, .bool true] [] rfl Try.func47 (by kernel_rfl) trivial (fun w' hs => ?_)
  exact ⟨(), rfl, hs.turnedG (ks := []) rfl rfl⟩

theorem w_pglog_look_api_Last_int__3 (F : Nat) (a0_o : Option Addr) (a0_c : Nat) {y : Unit} (hm : m_pglog_look_api_Last_int__3 F = some y) : CallG Try.prog 41 #[.slice a0_o 1 a0_c, .func (.func 37) #[] #[], .int .i64 3] (X := Unit) (fun (_ : Unit) => .tuple #[.int .i64 0, .bool true]) [] [.rd a0_o 5 [(kc17)]] (fun (_ : Unit) => []) := by
  intro w hg
  rw [m_pglog_look_api_Last_int__3] at hm
  refine GS.start (S := mayT [] [.rd a0_o 5 [(kc17)]]) (mem := [(1, .rd a0_o 5 [(kc17)])]) Try.func41 rfl Try.ntmps41 (Nat.le_of_ble_eq_true rfl) (hg.start rfl) ?_
  refine GS.conv (env' := [(0, .slice a0_o 1 a0_c), (1, .func (.func 37) #[] #[]), (2, .int .i64 3)]) rfl rfl ?_
  refine GS.seq ?_
  refine GS.rz (fun fr1 => [(0, .slice a0_o 1 a0_c), (2, .int .i64 3), (4, .pointer (some ⟨(fr1 0).x, 0, none⟩))]) (fun fr1 => [(1, .rd a0_o 5 [(kc17)]), (2, .cells ((fr1 0).x) 77 [.func (.func 37) #[] #[]])]) [(0, { act := .new .var, key := some 2 })] [0, 2, 4] [1, 2] (fun fr1 => by kernel_rfl) ?_
  intro fr1
  refine GS.seq ?_
  refine bnd_elim hm (fun y3 e4 hm => ?_)
  refine GS.rg (fun _ => [(6, .int .i64 0), (7, .bool true)]) (fun _ => []) [(3, { act := .call [1, 2] (.tuple #[.int .i64 0, .bool true]) })] [6, 7] [] (fun _ => [CallOK Try.prog 47 #[.slice a0_o 1 a0_c, .int .i64 3, .func (.func 48) #[] #[.pointer (some ⟨(fr1 0).x, 0, none⟩)]] (.tuple #[.int .i64 0, .bool true]) [some (.rd a0_o 5 [(kc17)]), some (.cells ((fr1 0).x) 77 [.func (.func 37) #[] #[]])]]) (fun _ => by kernel_rfl) (fun _ => ⟨(by have h1 := w_slices_BinarySearchFunc___api_Last_api_Last_int__3 F a0_o a0_c (fr1 0).x e4; exact h1.ok ⟨(.inl ⟨.rd a0_o 5 [(kc17)], .head _, Cov.refl _⟩), (.inl ⟨.cells ((fr1 0).x) 77 [.func (.func 37) #[] #[]], (.tail _ (.head _)), Cov.cells_rd⟩), trivial⟩), trivial⟩) ?_
  intro _
  have hy := Option.some.inj hm
  subst hy
  refine GS.ret (fn := Try.f41) [0, 0] [.int .i64 0, .bool true] [] rfl Try.func41 (by kernel_rfl) trivial (fun w' hs => ?_)
  exact ⟨(), rfl, hs.turnedG (ks := []) rfl rfl⟩

theorem w_pglog_itemName_2 (F : Nat) {y : Unit} (hm : m_pglog_itemName_2 F = some y) : CallG Try.prog 35 #[.agg ((kc19)).toArray] (X := Unit) (fun (_ : Unit) => .string (ByteArray.mk #[102])) [] [] (fun (_ : Unit) => []) := by
  intro w hg
  rw [m_pglog_itemName_2] at hm
  refine GS.start (S := mayT [] []) (mem := []) Try.func35 rfl Try.ntmps35 (Nat.le_of_ble_eq_true rfl) (hg.start rfl) ?_
  refine GS.conv (env' := [(0, .agg ((kc19)).toArray)]) rfl rfl ?_
  refine GS.seq ?_
  refine GS.rz (fun fr1 => [(1, .pointer (some ⟨(fr1 0).x, 0, none⟩))]) (fun fr1 => [(1, .cells ((fr1 0).x) 42 (kc19))]) [(0, { act := .new .var, key := some 1 })] [1] [1] (fun fr1 => by kernel_rfl) ?_
  intro fr1
  refine GS.seq ?_
  refine GS.rg (fun _ => [(2, .string (ByteArray.mk #[102]))]) (fun _ => []) [(1, { act := .load 1 0 0 [] })] [2] [] (fun _ => [(fr1 0).x = (fr1 0).x]) (fun _ => by kernel_rfl) (fun _ => ⟨rfl, trivial⟩) ?_
  intro _
  have hy := Option.some.inj hm
  subst hy
  refine GS.ret (fn := Try.f35) [0] [.string (ByteArray.mk #[102])] [] rfl Try.func35 (by kernel_rfl) trivial (fun w' hs => ?_)
  exact ⟨(), rfl, hs.turnedG (ks := []) rfl rfl⟩

theorem w_cmp_isNaN_string__2 (F : Nat) {y : Unit} (hm : m_cmp_isNaN_string__2 F = some y) : CallG Try.prog 57 #[.string (ByteArray.mk #[102])] (X := Unit) (fun (_ : Unit) => .bool false) [] [] (fun (_ : Unit) => []) := by
  intro w hg
  rw [m_cmp_isNaN_string__2] at hm
  refine GS.start (S := mayT [] []) (mem := []) Try.func57 rfl Try.ntmps57 (Nat.le_of_ble_eq_true rfl) (hg.start rfl) ?_
  refine GS.conv (env' := [(0, .string (ByteArray.mk #[102]))]) rfl rfl ?_
  refine GS.seq ?_
  refine GS.rzM (fun _ => [(0, .string (ByteArray.mk #[102]))]) [] [0] [] (fun _ => by kernel_rfl) ?_
  intro _
  refine GS.seq ?_
  refine GS.rgM (fun _ => [(2, .bool false)]) [(2, { sp := some (.bool false) })] [2] [] (fun _ => [((.bool (!((ByteArray.mk #[102]).toList == (ByteArray.mk #[102]).toList))) : Value) = .bool false]) (fun _ => by kernel_rfl) (fun _ => ⟨(by kernel_rfl), trivial⟩) ?_
  intro _
  have hy := Option.some.inj hm
  subst hy
  refine GS.ret (fn := Try.f57) [0] [.bool false] [] rfl Try.func57 (by kernel_rfl) trivial (fun w' hs => ?_)
  exact ⟨(), rfl, hs.turnedG (ks := []) rfl rfl⟩

theorem w_cmp_Compare_string__2 (F : Nat) {y : Unit} (hm : m_cmp_Compare_string__2 F = some y) : CallG Try.prog 53 #[.string (ByteArray.mk #[102]), .string (ByteArray.mk #[102])] (X := Unit) (fun (_ : Unit) => .int .i64 0) [] [] (fun (_ : Unit) => []) := by
  intro w hg
  rw [m_cmp_Compare_string__2] at hm
  refine GS.start (S := mayT [] []) (mem := []) Try.func53 rfl Try.ntmps53 (Nat.le_of_ble_eq_true rfl) (hg.start rfl) ?_
  refine GS.conv (env' := [(0, .string (ByteArray.mk #[102])), (1, .string (ByteArray.mk #[102]))]) rfl rfl ?_
  refine GS.seq ?_
  refine GS.rzM (fun _ => [(0, .string (ByteArray.mk #[102])), (1, .string (ByteArray.mk #[102]))]) [] [0, 1] [] (fun _ => by kernel_rfl) ?_
  intro _
  refine GS.seq ?_
  refine bnd_elim hm (fun y3 e4 hm => ?_)
  refine GS.rgM (fun _ => [(0, .string (ByteArray.mk #[102])), (1, .string (ByteArray.mk #[102])), (5, .bool false)]) [(1, { act := .call [] (.bool false) })] [0, 1, 5] [] (fun _ => [CallOK Try.prog 57 #[.string (ByteArray.mk #[102])] (.bool false) []]) (fun _ => by kernel_rfl) (fun _ => ⟨(by have h1 := w_cmp_isNaN_string__2 F  e4; exact h1.ok trivial), trivial⟩) ?_
  intro _
  refine GS.seq ?_
  refine bnd_elim hm (fun y6 e7 hm => ?_)
  refine GS.rgM (fun _ => [(0, .string (ByteArray.mk #[102])), (1, .string (ByteArray.mk #[102])), (5, .bool false), (6, .bool false)]) [(1, { act := .call [] (.bool false) })] [0, 1, 5, 6] [] (fun _ => [CallOK Try.prog 57 #[.string (ByteArray.mk #[102])] (.bool false) []]) (fun _ => by kernel_rfl) (fun _ => ⟨(by have h1 := w_cmp_isNaN_string__2 F  e7; exact h1.ok trivial), trivial⟩) ?_
  intro _
  refine GS.seq ?_
  refine GS.seq ?_
  refine GS.rzM (fun _ => [(0, .string (ByteArray.mk #[102])), (1, .string (ByteArray.mk #[102])), (6, .bool false), (11, .bool false)]) [] [0, 1, 6, 11] [] (fun _ => by kernel_rfl) ?_
  intro _
  refine GS.cond (t := false) rfl rfl (fun hf => by cases hf) (fun _ => ?_)
  refine GS.skip ?_
  refine GS.seq ?_
  refine GS.seq ?_
  refine GS.rzM (fun _ => [(0, .string (ByteArray.mk #[102])), (1, .string (ByteArray.mk #[102])), (13, .bool false)]) [] [0, 1, 13] [] (fun _ => by kernel_rfl) ?_
  intro _
  refine GS.cond (t := false) rfl rfl (fun hf => by cases hf) (fun _ => ?_)
  refine GS.skip ?_
  refine GS.seq ?_
  refine GS.seq ?_
  refine GS.rgM (fun _ => [(0, .string (ByteArray.mk #[102])), (1, .string (ByteArray.mk #[102])), (16, .bool false)]) [(2, { sp := some (.bool false) })] [0, 1, 16] [] (fun _ => [((.bool (Op.bytesLess (ByteArray.mk #[102]).toList (ByteArray.mk #[102]).toList)) : Value) = .bool false]) (fun _ => by kernel_rfl) (fun _ => ⟨(by kernel_rfl), trivial⟩) ?_
  intro _
  refine GS.cond (t := false) rfl rfl (fun hf => by cases hf) (fun _ => ?_)
  refine GS.skip ?_
  refine GS.seq ?_
  refine GS.seq ?_
  refine GS.rgM (fun _ => [(19, .bool false)]) [(2, { sp := some (.bool false) })] [19] [] (fun _ => [((.bool (!(Op.bytesLess (ByteArray.mk #[102]).toList (ByteArray.mk #[102]).toList || (ByteArray.mk #[102]).toList == (ByteArray.mk #[102]).toList))) : Value) = .bool false]) (fun _ => by kernel_rfl) (fun _ => ⟨(by kernel_rfl), trivial⟩) ?_
  intro _
  refine GS.cond (t := false) rfl rfl (fun hf => by cases hf) (fun _ => ?_)
  refine GS.skip ?_
  refine GS.seq ?_
  refine GS.rzM (fun _ => [(4, .int .i64 0)]) [] [4] [] (fun _ => by kernel_rfl) ?_
  intro _
  have hy := Option.some.inj hm
  subst hy
  refine GS.ret (fn := Try.f53) [0] [.int .i64 0] [] rfl Try.func53 (by kernel_rfl) trivial (fun w' hs => ?_)
  exact ⟨(), rfl, hs.turnedG (ks := []) rfl rfl⟩

theorem w_pglog_look_api_Item_string__1_2 (F : Nat) (a2b : Nat) {y : Unit} (hm : m_pglog_look_api_Item_string__1_2 F = some y) : CallG Try.prog 52 #[.agg ((kc19)).toArray, .string (ByteArray.mk #[102]), .pointer (some ⟨a2b, 0, none⟩)] (X := Unit) (fun (_ : Unit) => .int .i64 0) [] [.rd (some ⟨a2b, 0, none⟩) 1 [[.func (.func 35) #[] #[]]]] (fun (_ : Unit) => []) := by
  intro w hg
  rw [m_pglog_look_api_Item_string__1_2] at hm
  refine GS.start (S := mayT [] [.rd (some ⟨a2b, 0, none⟩) 1 [[.func (.func 35) #[] #[]]]]) (mem := [(1, .rd (some ⟨a2b, 0, none⟩) 1 [[.func (.func 35) #[] #[]]])]) Try.func52 rfl Try.ntmps52 (Nat.le_of_ble_eq_true rfl) (hg.start rfl) ?_
  refine GS.conv (env' := [(0, .agg ((kc19)).toArray), (1, .string (ByteArray.mk #[102])), (2, .pointer (some ⟨a2b, 0, none⟩))]) rfl rfl ?_
  refine GS.seq ?_
  refine GS.rz (fun fr1 => [(1, .string (ByteArray.mk #[102])), (2, .pointer (some ⟨a2b, 0, none⟩)), (3, .pointer (some ⟨(fr1 0).x, 0, none⟩))]) (fun fr1 => [(1, .rd (some ⟨a2b, 0, none⟩) 1 [[.func (.func 35) #[] #[]]]), (2, .cells ((fr1 0).x) 42 (kc19))]) [(0, { act := .new .var, key := some 2 })] [1, 2, 3] [1, 2] (fun fr1 => by kernel_rfl) ?_
  intro fr1
  refine GS.seq ?_
  refine bnd_elim hm (fun y3 e4 hm => ?_)
  refine bnd_elim hm (fun y5 e6 hm => ?_)
  refine GS.rg (fun _ => [(5, .int .i64 0)]) (fun _ => []) [(0, { act := .load 1 0 0 [.func (.func 35) #[] #[]] }), (1, { act := .load 2 0 0 [] }), (2, { act := .call [] (.string (ByteArray.mk #[102])) }), (4, { act := .call [] (.int .i64 0) })] [5] [] (fun _ => [a2b = blk (some ⟨a2b, 0, none⟩), 0 = offs (some ⟨a2b, 0, none⟩) + (0 * 1 + 0), ([[.func (.func 35) #[] #[]]] : List (List Value))[0]? = some [.func (.func 35) #[] #[]], (fr1 0).x = (fr1 0).x, CallOK Try.prog 35 #[.agg ((kc19)).toArray] (.string (ByteArray.mk #[102])) [], CallOK Try.prog 53 #[.string (ByteArray.mk #[102]), .string (ByteArray.mk #[102])] (.int .i64 0) []]) (fun _ => by kernel_rfl) (fun _ => ⟨rfl, rfl, rfl, rfl, (by have h1 := w_pglog_itemName_2 F  e4; exact h1.ok trivial), (by have h1 := w_cmp_Compare_string__2 F  e6; exact h1.ok trivial), trivial⟩) ?_
  intro _
  have hy := Option.some.inj hm
  subst hy
  refine GS.ret (fn := Try.f52) [0] [.int .i64 0] [] rfl Try.func52 (by kernel_rfl) trivial (fun w' hs => ?_)
  exact ⟨(), rfl, hs.turnedG (ks := []) rfl rfl⟩

theorem w_slices_BinarySearchFunc___api_Item_api_Item_string__3 (F : Nat) (a0_o : Option Addr) (a0_c : Nat) (a2c0b : Nat) {y : Unit} (hm : m_slices_BinarySearchFunc___api_Item_api_Item_string__3 F = some y) : CallG Try.prog 51 #[.slice a0_o 1 a0_c, .string (ByteArray.mk #[102]), .func (.func 52) #[] #[.pointer (some ⟨a2c0b, 0, none⟩)]] (X := Unit) (fun (_ : Unit) => .tuple #[.int .i64 0, .bool true]) [] [.rd a0_o 4 [(kc19)], .rd (some ⟨a2c0b, 0, none⟩) 1 [[.func (.func 35) #[] #[]]]] (fun (_ : Unit) => []) := by
  intro w hg
  rw [m_slices_BinarySearchFunc___api_Item_api_Item_string__3] at hm
  refine GS.start (S := mayT [] [.rd a0_o 4 [(kc19)], .rd (some ⟨a2c0b, 0, none⟩) 1 [[.func (.func 35) #[] #[]]]]) (mem := [(1, .rd a0_o 4 [(kc19)]), (2, .rd (some ⟨a2c0b, 0, none⟩) 1 [[.func (.func 35) #[] #[]]])]) Try.func51 rfl Try.ntmps51 (Nat.le_of_ble_eq_true rfl) (hg.start rfl) ?_
  refine GS.conv (env' := [(0, .slice a0_o 1 a0_c), (1, .string (ByteArray.mk #[102])), (2, .func (.func 52) #[] #[.pointer (some ⟨a2c0b, 0, none⟩)])]) rfl rfl ?_
  refine GS.seq ?_
  refine GS.rzM (fun _ => [(0, .slice a0_o 1 a0_c), (1, .string (ByteArray.mk #[102])), (2, .func (.func 52) #[] #[.pointer (some ⟨a2c0b, 0, none⟩)])]) [] [0, 1, 2] [1, 2] (fun _ => by kernel_rfl) ?_
  intro _
  refine GS.seq ?_
  refine GS.rzM (fun _ => [(0, .slice a0_o 1 a0_c), (1, .string (ByteArray.mk #[102])), (2, .func (.func 52) #[] #[.pointer (some ⟨a2c0b, 0, none⟩)]), (8, .int .i64 1)]) [] [0, 1, 2, 8] [1, 2] (fun _ => by kernel_rfl) ?_
  intro _
  refine GS.seq ?_
  refine GS.rzM (fun _ => [(0, .slice a0_o 1 a0_c), (1, .string (ByteArray.mk #[102])), (2, .func (.func 52) #[] #[.pointer (some ⟨a2c0b, 0, none⟩)]), (8, .int .i64 1), (9, .int .i64 0), (10, .int .i64 1)]) [] [0, 1, 2, 8, 9, 10] [1, 2] (fun _ => by kernel_rfl) ?_
  intro _
  refine GS.seq ?_
  refine GS.block ?_
  refine GS.loop ?_
  refine GS.seq ?_
  refine GS.seq ?_
  refine GS.rzM (fun _ => [(0, .slice a0_o 1 a0_c), (1, .string (ByteArray.mk #[102])), (2, .func (.func 52) #[] #[.pointer (some ⟨a2c0b, 0, none⟩)]), (8, .int .i64 1), (9, .int .i64 0), (10, .int .i64 1), (17, .bool true)]) [] [0, 1, 2, 8, 9, 10, 17] [1, 2] (fun _ => by kernel_rfl) ?_
  intro _
  refine GS.cond (t := true) rfl rfl (fun _ => ?_) (fun hf => by cases hf)
  refine GS.skip ?_
  refine GS.block ?_
  refine GS.seq ?_
  refine GS.rzM (fun _ => [(0, .slice a0_o 1 a0_c), (1, .string (ByteArray.mk #[102])), (2, .func (.func 52) #[] #[.pointer (some ⟨a2c0b, 0, none⟩)]), (8, .int .i64 1), (9, .int .i64 0), (10, .int .i64 1), (11, .int .i64 0)]) [] [0, 1, 2, 8, 9, 10, 11] [1, 2] (fun _ => by kernel_rfl) ?_
  intro _
  refine GS.seq ?_
  refine bnd_elim hm (fun y7 e8 hm => ?_)
  refine GS.rgM (fun _ => [(0, .slice a0_o 1 a0_c), (1, .string (ByteArray.mk #[102])), (2, .func (.func 52) #[] #[.pointer (some ⟨a2c0b, 0, none⟩)]), (8, .int .i64 1), (9, .int .i64 0), (10, .int .i64 1), (11, .int .i64 0), (31, .bool false)]) [(3, { act := .idx 1 0 }), (4, { act := .load 1 0 0 [.string (ByteArray.mk #[102]), .int .i64 1, .int .i64 1, .int .u32 7] }), (6, { act := .call [2] (.int .i64 0) })] [0, 1, 2, 8, 9, 10, 11, 31] [1, 2] (fun _ => [a0_o = a0_o, 1 = ([(kc19)] : List (List Value)).length, (0 : Int) = ((0 : Nat) : Int), 0 < 1, blk a0_o = blk a0_o, offs a0_o + 0 * 4 = offs a0_o + (0 * 4 + 0), ([(kc19)] : List (List Value))[0]? = some [.string (ByteArray.mk #[102]), .int .i64 1, .int .i64 1, .int .u32 7], CallOK Try.prog 52 #[.agg ((kc19)).toArray, .string (ByteArray.mk #[102]), .pointer (some ⟨a2c0b, 0, none⟩)] (.int .i64 0) [some (.rd (some ⟨a2c0b, 0, none⟩) 1 [[.func (.func 35) #[] #[]]])]]) (fun _ => by kernel_rfl) (fun _ => ⟨rfl, rfl, rfl, (Nat.le_of_ble_eq_true rfl), rfl, rfl, rfl, (by have h1 := w_pglog_look_api_Item_string__1_2 F a2c0b e8; exact h1.ok ⟨(.inl ⟨.rd (some ⟨a2c0b, 0, none⟩) 1 [[.func (.func 35) #[] #[]]], .head _, Cov.refl _⟩), trivial⟩), trivial⟩) ?_
  intro _
  refine GS.cond (t := false) rfl rfl (fun hf => by cases hf) (fun _ => ?_)
  refine GS.rzM (fun _ => [(0, .slice a0_o 1 a0_c), (1, .string (ByteArray.mk #[102])), (2, .func (.func 52) #[] #[.pointer (some ⟨a2c0b, 0, none⟩)]), (8, .int .i64 1), (9, .int .i64 0), (10, .int .i64 0)]) [] [0, 1, 2, 8, 9, 10] [1, 2] (fun _ => by kernel_rfl) ?_
  intro _
  refine GS.inBlock ?_
  refine GS.inLoop ?_
  refine GS.seq ?_
  refine GS.seq ?_
  refine GS.rzM (fun _ => [(0, .slice a0_o 1 a0_c), (1, .string (ByteArray.mk #[102])), (2, .func (.func 52) #[] #[.pointer (some ⟨a2c0b, 0, none⟩)]), (8, .int .i64 1), (9, .int .i64 0), (10, .int .i64 0), (17, .bool false)]) [] [0, 1, 2, 8, 9, 10, 17] [1, 2] (fun _ => by kernel_rfl) ?_
  intro _
  refine GS.cond (t := false) rfl rfl (fun hf => by cases hf) (fun _ => ?_)
  refine GS.exit rfl ?_
  refine GS.seq ?_
  refine bnd_elim hm (fun y12 e13 hm => ?_)
  refine GS.rg (fun _ => [(6, .int .i64 0), (7, .bool true)]) (fun _ => []) [(8, { act := .idx 1 0 }), (9, { act := .load 1 0 0 [.string (ByteArray.mk #[102]), .int .i64 1, .int .i64 1, .int .u32 7] }), (11, { act := .call [2] (.int .i64 0) })] [6, 7] [] (fun _ => [a0_o = a0_o, 1 = ([(kc19)] : List (List Value)).length, (0 : Int) = ((0 : Nat) : Int), 0 < 1, blk a0_o = blk a0_o, offs a0_o + 0 * 4 = offs a0_o + (0 * 4 + 0), ([(kc19)] : List (List Value))[0]? = some [.string (ByteArray.mk #[102]), .int .i64 1, .int .i64 1, .int .u32 7], CallOK Try.prog 52 #[.agg ((kc19)).toArray, .string (ByteArray.mk #[102]), .pointer (some ⟨a2c0b, 0, none⟩)] (.int .i64 0) [some (.rd (some ⟨a2c0b, 0, none⟩) 1 [[.func (.func 35) #[] #[]]])]]) (fun _ => by kernel_rfl) (fun _ => ⟨rfl, rfl, rfl, (Nat.le_of_ble_eq_true rfl), rfl, rfl, rfl, (by have h1 := w_pglog_look_api_Item_string__1_2 F a2c0b e13; exact h1.ok ⟨(.inl ⟨.rd (some ⟨a2c0b, 0, none⟩) 1 [[.func (.func 35) #[] #[]]], .head _, Cov.refl _⟩), trivial⟩), trivial⟩) ?_
  intro _
  have hy := Option.some.inj hm
  subst hy
  refine GS.ret (fn := Try.f51) [0, 0] [.int .i64 0, .bool true] [] rfl Try.func51 (by kernel_rfl) trivial (fun w' hs => ?_)
  exact ⟨(), rfl, hs.turnedG (ks := []) rfl rfl⟩

theorem w_pglog_look_api_Item_string__3 (F : Nat) (a0_o : Option Addr) (a0_c : Nat) {y : Unit} (hm : m_pglog_look_api_Item_string__3 F = some y) : CallG Try.prog 43 #[.slice a0_o 1 a0_c, .func (.func 35) #[] #[], .string (ByteArray.mk #[102])] (X := Unit) (fun (_ : Unit) => .tuple #[.int .i64 0, .bool true]) [] [.rd a0_o 4 [(kc19)]] (fun (_ : Unit) => []) := by
  intro w hg
  rw [m_pglog_look_api_Item_string__3] at hm
  refine GS.start (S := mayT [] [.rd a0_o 4 [(kc19)]]) (mem := [(1, .rd a0_o 4 [(kc19)])]) Try.func43 rfl Try.ntmps43 (Nat.le_of_ble_eq_true rfl) (hg.start rfl) ?_
  refine GS.conv (env' := [(0, .slice a0_o 1 a0_c), (1, .func (.func 35) #[] #[]), (2, .string (ByteArray.mk #[102]))]) rfl rfl ?_
  refine GS.seq ?_
  refine GS.rz (fun fr1 => [(0, .slice a0_o 1 a0_c), (2, .string (ByteArray.mk #[102])), (4, .pointer (some ⟨(fr1 0).x, 0, none⟩))]) (fun fr1 => [(1, .rd a0_o 4 [(kc19)]), (2, .cells ((fr1 0).x) 75 [.func (.func 35) #[] #[]])]) [(0, { act := .new .var, key := some 2 })] [0, 2, 4] [1, 2] (fun fr1 => by kernel_rfl) ?_
  intro fr1
  refine GS.seq ?_
  refine bnd_elim hm (fun y3 e4 hm => ?_)
  refine GS.rg (fun _ => [(6, .int .i64 0), (7, .bool true)]) (fun _ => []) [(3, { act := .call [1, 2] (.tuple #[.int .i64 0, .bool true]) })] [6, 7] [] (fun _ => [CallOK Try.prog 51 #[.slice a0_o 1 a0_c, .string (ByteArray.mk #[102]), .func (.func 52) #[] #[.pointer (some ⟨(fr1 0).x, 0, none⟩)]] (.tuple #[.int .i64 0, .bool true]) [some (.rd a0_o 4 [(kc19)]), some (.cells ((fr1 0).x) 75 [.func (.func 35) #[] #[]])]]) (fun _ => by kernel_rfl) (fun _ => ⟨(by have h1 := w_slices_BinarySearchFunc___api_Item_api_Item_string__3 F a0_o a0_c (fr1 0).x e4; exact h1.ok ⟨(.inl ⟨.rd a0_o 4 [(kc19)], .head _, Cov.refl _⟩), (.inl ⟨.cells ((fr1 0).x) 75 [.func (.func 35) #[] #[]], (.tail _ (.head _)), Cov.cells_rd⟩), trivial⟩), trivial⟩) ?_
  intro _
  have hy := Option.some.inj hm
  subst hy
  refine GS.ret (fn := Try.f43) [0, 0] [.int .i64 0, .bool true] [] rfl Try.func43 (by kernel_rfl) trivial (fun w' hs => ?_)
  exact ⟨(), rfl, hs.turnedG (ks := []) rfl rfl⟩

theorem w_slices_Delete___api_Item_api_Item__2 (F : Nat) (a0_o : Option Addr) (a0_c : Nat) (a0_ch : 1 ≤ a0_c) {y : Unit} (hm : m_slices_Delete___api_Item_api_Item__2 F = some y) : CallG Try.prog 44 #[.slice a0_o 1 a0_c, .int .i64 0, .int .i64 1] (X := Unit) (fun (_ : Unit) => .slice a0_o 0 a0_c) [.osl a0_o a0_c 42 4 [(kc19)]] [] (fun (_ : Unit) => [.osl a0_o a0_c 42 4 []]) := by
  intro w hg
  rw [m_slices_Delete___api_Item_api_Item__2] at hm
  refine GS.start (S := mayT [.osl a0_o a0_c 42 4 [(kc19)]] []) (mem := [(1, .osl a0_o a0_c 42 4 [(kc19)])]) Try.func44 rfl Try.ntmps44 (Nat.le_of_ble_eq_true rfl) (hg.start rfl) ?_
  refine GS.conv (env' := [(0, .slice a0_o 1 a0_c), (1, .int .i64 0), (2, .int .i64 1)]) rfl rfl ?_
  refine GS.seq ?_
  refine GS.rzM (fun _ => [(0, .slice a0_o 1 a0_c), (1, .int .i64 0), (2, .int .i64 1)]) [] [0, 1, 2] [1] (fun _ => by kernel_rfl) ?_
  intro _
  refine GS.seq ?_
  refine GS.rgM (fun _ => [(0, .slice a0_o 1 a0_c), (1, .int .i64 0), (2, .int .i64 1)]) [(5, { act := .cut 0 1 1, sp := some (.slice (cutOb a0_o 0 1 4) 1 1) })] [0, 1, 2] [1] (fun _ => [0 = ((0 : Nat) : Int), 1 = ((1 : Nat) : Int), 1 = ((1 : Nat) : Int), 0 ≤ 1, 1 ≤ 1, 1 ≤ a0_c, (some (Operand.tmp 10) : Option Operand) = none → (some (Operand.tmp 12) : Option Operand) = none, ((.slice (if 1 = 0 then a0_o else (a0_o).map (fun a => a.add (0 * 4))) (1 - 0) (1 - 0)) : Value) = .slice (cutOb a0_o 0 1 4) 1 1]) (fun _ => by kernel_rfl) (fun _ => ⟨rfl, rfl, rfl, (Nat.le_of_ble_eq_true rfl), (Nat.le_of_ble_eq_true rfl), a0_ch, (by intro h; first | rfl | cases h), rfl, trivial⟩) ?_
  intro _
  refine GS.seq ?_
  refine GS.seq ?_
  refine GS.rzM (fun _ => [(0, .slice a0_o 1 a0_c), (1, .int .i64 0), (2, .int .i64 1), (16, .bool false)]) [] [0, 1, 2, 16] [1] (fun _ => by kernel_rfl) ?_
  intro _
  refine GS.cond (t := false) rfl rfl (fun hf => by cases hf) (fun _ => ?_)
  refine GS.skip ?_
  refine GS.seq ?_
  refine GS.rzM (fun _ => [(0, .slice a0_o 1 a0_c), (1, .int .i64 0), (2, .int .i64 1), (7, .int .i64 1)]) [] [0, 1, 2, 7] [1] (fun _ => by kernel_rfl) ?_
  intro _
  refine GS.seq ?_
  refine GS.region (env' := fun fr5 => [(0, .slice a0_o 0 a0_c), (7, .int .i64 1)]) (mem' := fun fr5 => [(1, .osl a0_o a0_c 42 4 (([(kc19)] : List (List Value)).take 0 ++ ([(kc19)] : List (List Value)).drop 1))]) (RunsTo.mkd [(2, { act := .cut 0 0 a0_c, sp := some (.slice a0_o 0 a0_c) }), (5, { act := .cut 1 1 a0_c, sp := some (.slice (cutOb a0_o 1 a0_c 4) 0 (a0_c - 1)) }), (6, { act := .appSelf 0 1 a0_c, key := some 1, sp := some (.slice a0_o 0 a0_c) })] [0, 7] [1] (fun fr5 => [0 = 0, 0 = ((0 : Nat) : Int), a0_c = a0_c, 0 ≤ 0, 0 ≤ a0_c, a0_c ≤ a0_c, (some (Operand.tmp 21) : Option Operand) = none → (none : Option Operand) = none, (.slice (if a0_c = 0 then a0_o else (a0_o).map (fun a => a.add (0 * 4))) (0 - 0) (a0_c - 0) : Value) = .slice a0_o 0 a0_c, 1 = ((1 : Nat) : Int), 1 = 1, a0_c = a0_c, 1 ≤ 1, 1 ≤ a0_c, a0_c ≤ a0_c, (none : Option Operand) = none → (none : Option Operand) = none, ((.slice (if a0_c = 1 then a0_o else (a0_o).map (fun a => a.add (1 * 4))) (1 - 1) (a0_c - 1)) : Value) = .slice (cutOb a0_o 1 a0_c 4) 0 (a0_c - 1), a0_o = a0_o, a0_c = a0_c, 0 = 0, 0 ≤ ([(kc19)] : List (List Value)).length, 1 ≤ ([(kc19)] : List (List Value)).length, ([(kc19)] : List (List Value)).length ≤ a0_c, (cutOb a0_o 1 a0_c 4) = cutOb a0_o 1 a0_c 4, 0 = ([(kc19)] : List (List Value)).length - 1, (0 + (([(kc19)] : List (List Value)).length - 1)) * (40 + 1) ≤ 70368744177664, ([(kc19)] : List (List Value)).flatten.all Value.oneCell' = true, 0 + (([(kc19)] : List (List Value)).length - 1) ≤ a0_c, ((.slice a0_o (0 + (([(kc19)] : List (List Value)).length - 1)) a0_c) : Value) = .slice a0_o 0 a0_c]) (by kernel_rfl) (by kernel_rfl) (fun fr5 => by kernel_rfl) (fun fr5 => ⟨rfl, rfl, rfl, (Nat.le_of_ble_eq_true rfl), (Nat.le_trans (Nat.le_of_ble_eq_true rfl : 0 ≤ 1) a0_ch), (Nat.le_refl _), (by intro h; first | rfl | cases h), cut_zero _ _ _ _, rfl, rfl, rfl, (Nat.le_of_ble_eq_true rfl), a0_ch, (Nat.le_refl _), (by intro h; first | rfl | cases h), rfl, rfl, rfl, rfl, (Nat.le_of_ble_eq_true rfl), (Nat.le_of_ble_eq_true rfl), a0_ch, rfl, rfl, (show 0 * (40 + 1) ≤ 70368744177664 by decide), rfl, (show 0 ≤ a0_c from (Nat.le_trans (Nat.le_of_ble_eq_true rfl : 0 ≤ 1) a0_ch)), rfl, trivial⟩)) ?_
  intro fr5
  refine GS.conv (mem' := [(1, .osl a0_o a0_c 42 4 [])]) rfl (congrArg (fun rr : List (List Value) => ([(1, .osl a0_o a0_c 42 4 rr)] : List (Nat × Ent))) (show ([(kc19)] : List (List Value)).take 0 ++ ([(kc19)] : List (List Value)).drop 1 = ([] : List (List Value)) from rfl)) ?_
  refine GS.seq ?_
  refine GS.rgM (fun _ => [(0, .slice a0_o 0 a0_c)]) [(4, { act := .cut 0 1 a0_c, sp := some (.slice (cutOb a0_o 0 a0_c 4) 1 (a0_c - 0)) }), (5, { act := .clearS 0 a0_c, key := some 1 })] [0] [1] (fun _ => [0 = ((0 : Nat) : Int), 1 = ((1 : Nat) : Int), a0_c = a0_c, 0 ≤ 1, 1 ≤ a0_c, a0_c ≤ a0_c, (some (Operand.tmp 30) : Option Operand) = none → (none : Option Operand) = none, ((.slice (if a0_c = 0 then a0_o else (a0_o).map (fun a => a.add (0 * 4))) (1 - 0) (a0_c - 0)) : Value) = .slice (cutOb a0_o 0 a0_c 4) 1 (a0_c - 0), cutOb a0_o 0 a0_c 4 = cutOb a0_o 0 a0_c 4, ([] : List (List Value)).length ≤ 0, 0 + (1) ≤ a0_c, a0_c ≤ a0_c]) (fun _ => by kernel_rfl) (fun _ => ⟨rfl, rfl, rfl, (Nat.le_of_ble_eq_true rfl), a0_ch, (Nat.le_refl _), (by intro h; first | rfl | cases h), rfl, rfl, (Nat.le_of_ble_eq_true rfl), (show 1 ≤ a0_c from a0_ch), (Nat.le_refl _), trivial⟩) ?_
  intro _
  refine GS.seq ?_
  refine GS.rzM (fun _ => [(6, .slice a0_o 0 a0_c)]) [] [6] [1] (fun _ => by kernel_rfl) ?_
  intro _
  have hy := Option.some.inj hm
  subst hy
  refine GS.ret (fn := Try.f44) [0] [.slice a0_o 0 a0_c] [] rfl Try.func44 (by kernel_rfl) trivial (fun w' hs => ?_)
  exact ⟨(), rfl, hs.turnedG (ks := [1]) rfl rfl⟩

end Go.Proofs.Ytmoaiokgbjkaaaa
