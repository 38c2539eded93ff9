/-
  CHAPTER 13g: the functions do what their models say (6).
-/
import Derived.Test.YtmoaiokgbjkaaaaM13g
import Derived.Test.YtmoaiokgbjkaaaaW13gd
import Derived.Test.YtmoaiokgbjkaaaaW13ge
set_option linter.unusedVariables false
set_option linter.unusedSimpArgs false
set_option maxRecDepth 100000
set_option maxHeartbeats 8000000
namespace Go.Proofs.Ytmoaiokgbjkaaaa
open Go Go.RowKit Sx

theorem w_pglog_Append_4 (F : Nat) (a0_3_o : Option Addr) (a0_3_c : Nat) (a0_4_o : Option Addr) (a0_4_c : Nat) (a0_5_o : Option Addr) (a0_5_c : Nat) {y : Unit} (hm : m_pglog_Append_4 F = some y) : CallG Try.prog 28 #[.agg ((kc20 a0_3_o a0_3_c a0_4_o a0_4_c a0_5_o a0_5_c)).toArray, .agg ((kc21)).toArray, .int .u32 0] (X := Option Addr × Nat × Option Addr × Nat × Option Addr × Nat) (fun ⟨x0, x1, x2, x3, x4, x5⟩ => .tuple #[.agg ((kc25 x0 x1 x2 x3 x4 x5)).toArray, .int .i64 0]) [] [.rd a0_3_o 7 [(kc12)], .rd a0_4_o 5 [(kc17)], .rd a0_5_o 4 [(kc19)]] (fun ⟨x0, x1, x2, x3, x4, x5⟩ => [.osl x0 x1 52 7 [(kc12), (kc21)], .osl x2 x3 47 5 [(kc23)], .osl x4 x5 42 4 []]) := by
  intro w hg
  rw [m_pglog_Append_4] at hm
  refine GS.start (S := mayT [] [.rd a0_3_o 7 [(kc12)], .rd a0_4_o 5 [(kc17)], .rd a0_5_o 4 [(kc19)]]) (mem := [(1, .rd a0_3_o 7 [(kc12)]), (2, .rd a0_4_o 5 [(kc17)]), (3, .rd a0_5_o 4 [(kc19)])]) Try.func28 rfl Try.ntmps28 (Nat.le_of_ble_eq_true rfl) (hg.start rfl) ?_
  refine GS.conv (env' := [(0, .agg ((kc20 a0_3_o a0_3_c a0_4_o a0_4_c a0_5_o a0_5_c)).toArray), (1, .agg ((kc21)).toArray), (2, .int .u32 0)]) rfl rfl ?_
  refine GS.seq ?_
  refine GS.rz (fun fr1 => [(2, .int .u32 0), (3, .pointer (some ⟨(fr1 0).x, 0, none⟩)), (4, .pointer (some ⟨(fr1 1).x, 0, none⟩)), (6, .pointer (some ⟨(fr1 2).x, 0, none⟩))]) (fun fr1 => [(1, .rd a0_3_o 7 [(kc12)]), (2, .rd a0_4_o 5 [(kc17)]), (3, .rd a0_5_o 4 [(kc19)]), (4, .cells ((fr1 0).x) 28 (kc20 a0_3_o a0_3_c a0_4_o a0_4_c a0_5_o a0_5_c)), (5, .cells ((fr1 1).x) 52 (kc21)), (6, .cells ((fr1 2).x) 28 (kc0))]) [(0, { act := .new .var, key := some 4 }), (1, { act := .new .var, key := some 5 }), (2, { act := .new .var, key := some 6 })] [2, 3, 4, 6] [1, 2, 3, 4, 5, 6] (fun fr1 => by kernel_rfl) ?_
  intro fr1
  refine GS.seq ?_
  refine bnd_elim hm (fun y3 e4 hm => ?_)
  refine GS.rgM (fun fr2 => [(2, .int .u32 0), (3, .pointer (some ⟨(fr1 0).x, 0, none⟩)), (4, .pointer (some ⟨(fr1 1).x, 0, none⟩)), (6, .pointer (some ⟨(fr1 2).x, 0, none⟩)), (9, .bool true)]) [(0, { act := .load 4 0 0 [] }), (2, { act := .load 5 0 0 [] }), (3, { act := .call [1, 2, 3] (.tuple #[.agg ((kc19)).toArray, .bool true]) }), (7, { act := .new .var, key := some 7 }), (8, { act := .store 0 0 [], key := some 7 })] [2, 3, 4, 6, 9] [1, 2, 3, 4, 5, 6] (fun fr2 => [(fr1 0).x = (fr1 0).x, (fr1 1).x = (fr1 1).x, CallOK Try.prog 15 #[.agg ((kc20 a0_3_o a0_3_c a0_4_o a0_4_c a0_5_o a0_5_c)).toArray, .string (ByteArray.mk #[102])] (.tuple #[.agg ((kc19)).toArray, .bool true]) [some (.rd a0_3_o 7 [(kc12)]), some (.rd a0_4_o 5 [(kc17)]), some (.rd a0_5_o 4 [(kc19)])], (fr2 7).x = (fr2 7).x, ((.agg ((kc19)).toArray) : Value).cells.toList.all Value.oneCell' = true]) (fun fr2 => by kernel_rfl) (fun fr2 => ⟨rfl, rfl, (by have h1 := w_pglog_Find_4 F a0_3_o a0_3_c a0_4_o a0_4_c a0_5_o a0_5_c e4; exact h1.ok ⟨(.inl ⟨.rd a0_3_o 7 [(kc12)], .head _, Cov.refl _⟩), (.inl ⟨.rd a0_4_o 5 [(kc17)], (.tail _ (.head _)), Cov.refl _⟩), (.inl ⟨.rd a0_5_o 4 [(kc19)], (.tail _ (.tail _ (.head _))), Cov.refl _⟩), trivial⟩), rfl, rfl, trivial⟩) ?_
  intro fr2
  refine GS.seq ?_
  refine GS.block ?_
  refine GS.seq ?_
  refine bnd_elim hm (fun y6 e7 hm => ?_)
  refine bnd_elim hm (fun y8 e9 hm => ?_)
  refine GS.rM (env' := fun _ => [(2, .int .u32 0), (3, .pointer (some ⟨(fr1 0).x, 0, none⟩)), (4, .pointer (some ⟨(fr1 1).x, 0, none⟩)), (6, .pointer (some ⟨(fr1 2).x, 0, none⟩)), (9, .bool true), (23, .bool false)]) (RunsTo.mkd [(1, { act := .load 5 0 0 [] }), (2, { act := .load 4 0 0 [] }), (3, { act := .call [1, 2, 3] (.agg #[.int .i64 1, .int .i64 1]) }), (4, { act := .call [] (.int .i64 1) }), (8, { act := .load 5 0 0 [] }), (13, { act := .load 5 0 0 [] })] [2, 3, 4, 6, 9, 23] [1, 2, 3, 4, 5, 6] (fun _ => [(fr1 1).x = (fr1 1).x, (fr1 0).x = (fr1 0).x, CallOK Try.prog 23 #[.agg ((kc20 a0_3_o a0_3_c a0_4_o a0_4_c a0_5_o a0_5_c)).toArray] (.agg #[.int .i64 1, .int .i64 1]) [some (.rd a0_3_o 7 [(kc12)]), some (.rd a0_4_o 5 [(kc17)]), some (.rd a0_5_o 4 [(kc19)])], CallOK Try.prog 7 #[.agg #[.int .i64 1, .int .i64 2], .agg #[.int .i64 1, .int .i64 1]] (.int .i64 1) [], (fr1 1).x = (fr1 1).x, (fr1 1).x = (fr1 1).x]) (by kernel_rfl) (by kernel_rfl) (fun _ => by kernel_rfl) (fun _ => ⟨rfl, rfl, (by have h1 := w_pglog_Head_4 F a0_3_o a0_3_c a0_4_o a0_4_c a0_5_o a0_5_c e7; exact h1.ok ⟨(.inl ⟨.rd a0_3_o 7 [(kc12)], .head _, Cov.refl _⟩), (.inl ⟨.rd a0_4_o 5 [(kc17)], (.tail _ (.head _)), Cov.refl _⟩), (.inl ⟨.rd a0_5_o 4 [(kc19)], (.tail _ (.tail _ (.head _))), Cov.refl _⟩), trivial⟩), (by have h1 := w_pglog_Cmp_3 F  e9; exact h1.ok trivial), rfl, rfl, trivial⟩)) ?_
  intro _
  refine GS.cond (t := false) rfl rfl (fun hf => by cases hf) (fun _ => ?_)
  refine GS.seq ?_
  refine bnd_elim hm (fun y11 e12 hm => ?_)
  refine GS.rgM (fun _ => [(2, .int .u32 0), (3, .pointer (some ⟨(fr1 0).x, 0, none⟩)), (4, .pointer (some ⟨(fr1 1).x, 0, none⟩)), (6, .pointer (some ⟨(fr1 2).x, 0, none⟩)), (9, .bool true), (41, .bool false)]) [(1, { act := .load 5 0 0 [] }), (2, { act := .call [] (.bool true) })] [2, 3, 4, 6, 9, 41] [1, 2, 3, 4, 5, 6] (fun _ => [(fr1 1).x = (fr1 1).x, CallOK Try.prog 38 #[.string (ByteArray.mk #[102])] (.bool true) []]) (fun _ => by kernel_rfl) (fun _ => ⟨rfl, (by have h1 := w_place_Good_2 F  e12; exact h1.ok trivial), trivial⟩) ?_
  intro _
  refine GS.cond (t := false) rfl rfl (fun hf => by cases hf) (fun _ => ?_)
  refine GS.seq ?_
  refine GS.rgM (fun _ => [(2, .int .u32 0), (3, .pointer (some ⟨(fr1 0).x, 0, none⟩)), (4, .pointer (some ⟨(fr1 1).x, 0, none⟩)), (6, .pointer (some ⟨(fr1 2).x, 0, none⟩)), (47, .bool false)]) [(1, { act := .load 5 0 0 [] }), (5, { act := .load 5 0 0 [] })] [2, 3, 4, 6, 47] [1, 2, 3, 4, 5, 6] (fun _ => [(fr1 1).x = (fr1 1).x, (fr1 1).x = (fr1 1).x]) (fun _ => by kernel_rfl) (fun _ => ⟨rfl, rfl, trivial⟩) ?_
  intro _
  refine GS.cond (t := false) rfl rfl (fun hf => by cases hf) (fun _ => ?_)
  refine GS.skip ?_
  refine GS.inBlock ?_
  refine GS.seq ?_
  refine bnd_elim hm (fun y15 e16 hm => ?_)
  refine GS.open_ ?_
  refine GR.rM (i := 0) 1 (env' := fun _ => [(2, .int .u32 0), (3, .pointer (some ⟨(fr1 0).x, 0, none⟩)), (4, .pointer (some ⟨(fr1 1).x, 0, none⟩)), (6, .pointer (some ⟨(fr1 2).x, 0, none⟩)), (67, .agg ((kc20 a0_3_o a0_3_c a0_4_o a0_4_c a0_5_o a0_5_c)).toArray)]) (by kernel_rfl) (RunsTo.mk [(0, { act := .load 4 0 0 [] })] [2, 3, 4, 6, 67] [1, 2, 3, 4, 5, 6] (fun _ => [(fr1 0).x = (fr1 0).x]) (fun _ => by kernel_rfl) (fun _ => ⟨rfl, trivial⟩)) ?_
  intro _
  refine GR.callG (X := Option Addr × Nat × Option Addr × Nat × Option Addr × Nat) (i := 1) (g := 20) (args := #[.agg ((kc20 a0_3_o a0_3_c a0_4_o a0_4_c a0_5_o a0_5_c)).toArray]) (v := fun ⟨x17, x18, x19, x20, x21, x22⟩ => .agg ((kc20 x17 x18 x19 x20 x21 x22)).toArray) (own := []) (ro := [.rd a0_3_o 7 [(kc12)], .rd a0_4_o 5 [(kc17)], .rd a0_5_o 4 [(kc19)]]) (es' := fun ⟨x17, x18, x19, x20, x21, x22⟩ => [.osl x17 x18 52 7 [(kc12)], .osl x19 x20 47 5 [(kc17)], .osl x21 x22 42 4 [(kc19)]]) (mem' := fun ⟨x17, x18, x19, x20, x21, x22⟩ => [(1, .rd a0_3_o 7 [(kc12)]), (2, .rd a0_4_o 5 [(kc17)]), (3, .rd a0_5_o 4 [(kc19)]), (4, .cells ((fr1 0).x) 28 (kc20 a0_3_o a0_3_c a0_4_o a0_4_c a0_5_o a0_5_c)), (5, .cells ((fr1 1).x) 52 (kc21)), (6, .cells ((fr1 2).x) 28 (kc0)), (8, .osl x17 x18 52 7 [(kc12)]), (9, .osl x19 x20 47 5 [(kc17)]), (10, .osl x21 x22 42 4 [(kc19)])]) (env' := fun ⟨x17, x18, x19, x20, x21, x22⟩ => [(2, .int .u32 0), (3, .pointer (some ⟨(fr1 0).x, 0, none⟩)), (4, .pointer (some ⟨(fr1 1).x, 0, none⟩)), (6, .pointer (some ⟨(fr1 2).x, 0, none⟩)), (68, .agg ((kc20 x17 x18 x19 x20 x21 x22)).toArray)]) [] [8, 9, 10] [2, 3, 4, 6, 68] [1, 2, 3, 4, 5, 6, 8, 9, 10] false (by kernel_rfl) (by kernel_rfl) (by kernel_rfl) (by kernel_rfl) (by kernel_rfl) (fun _ => rfl) (fun _ _ => rfl) ⟨(.inl ⟨1, _, rfl, rfl, Cov.refl _, fun h => by cases h⟩), (.inl ⟨2, _, rfl, rfl, Cov.refl _, fun h => by cases h⟩), (.inl ⟨3, _, rfl, rfl, Cov.refl _, fun h => by cases h⟩), trivial⟩ (by rintro ⟨x17, x18, x19, x20, x21, x22⟩; kernel_rfl) (by rintro ⟨x17, x18, x19, x20, x21, x22⟩; kernel_rfl) ((by have h1 := w_pglog_Copy_4 F a0_3_o a0_3_c a0_4_o a0_4_c a0_5_o a0_5_c e16; exact h1)) ?_
  rintro ⟨x17, x18, x19, x20, x21, x22⟩
  refine GR.ru (i := 2) 1 (env' := fun _ => [(2, .int .u32 0), (3, .pointer (some ⟨(fr1 0).x, 0, none⟩)), (4, .pointer (some ⟨(fr1 1).x, 0, none⟩)), (6, .pointer (some ⟨(fr1 2).x, 0, none⟩))]) (mem' := fun _ => [(4, .cells ((fr1 0).x) 28 (kc20 x17 x18 x19 x20 x21 x22)), (5, .cells ((fr1 1).x) 52 (kc21)), (6, .cells ((fr1 2).x) 28 (kc0)), (8, .osl x17 x18 52 7 [(kc12)]), (9, .osl x19 x20 47 5 [(kc17)]), (10, .osl x21 x22 42 4 [(kc19)])]) (by kernel_rfl) (RunsTo.mk [(2, { act := .store 0 0 [], key := some 4 })] [2, 3, 4, 6] [4, 5, 6, 8, 9, 10] (fun _ => [(fr1 0).x = (fr1 0).x, ((.agg ((kc20 x17 x18 x19 x20 x21 x22)).toArray) : Value).cells.toList.all Value.oneCell' = true]) (fun _ => by kernel_rfl) (fun _ => ⟨rfl, rfl, trivial⟩)) ?_
  intro _
  refine GR.dn (by kernel_rfl) ?_
  refine GS.seq ?_
  refine GS.rg (fun fr24 => [(2, .int .u32 0), (3, .pointer (some ⟨(fr1 0).x, 0, none⟩)), (4, .pointer (some ⟨(fr1 1).x, 0, none⟩)), (6, .pointer (some ⟨(fr1 2).x, 0, none⟩))]) (fun fr24 => [(4, .cells ((fr1 0).x) 28 (kc22 ((fr24 4).ob) ((fr24 4).cap) x19 x20 x21 x22)), (5, .cells ((fr1 1).x) 52 (kc21)), (6, .cells ((fr1 2).x) 28 (kc0)), (8, .osl ((fr24 4).ob) ((fr24 4).cap) 52 7 (([(kc12)] : List (List Value)) ++ ([(kc21)] : List (List Value)))), (9, .osl x19 x20 47 5 [(kc17)]), (10, .osl x21 x22 42 4 [(kc19)])]) [(1, { act := .load 4 0 0 [] }), (2, { act := .load 5 0 0 [] }), (3, { act := .new (.row 1 7), key := some 11 }), (4, { act := .app (some 11), key := some 8, spf := some (fun f => .slice (f.ob) 2 (f.cap)) }), (6, { act := .store 0 0 [], key := some 4 })] [2, 3, 4, 6] [4, 5, 6, 8, 9, 10] (fun fr24 => [(fr1 0).x = (fr1 0).x, (fr1 1).x = (fr1 1).x, (some (Addr.mk (fr24 3).x 0 none)) = (some (Addr.mk (fr24 3).x 0 none)), 1 = ([(kc21)] : List (List Value)).length, x17 = x17, x18 = x18, 1 = ([(kc12)] : List (List Value)).length, (([(kc12)] : List (List Value)).length + ([(kc21)] : List (List Value)).length) * (64 + 1) ≤ 70368744177664, ([(kc21)] : List (List Value)).flatten.all Value.oneCell' = true, ((.slice ((fr24 4).ob) (1 + ([(kc21)] : List (List Value)).length) ((fr24 4).cap)) : Value) = .slice ((fr24 4).ob) 2 ((fr24 4).cap), (fr1 0).x = (fr1 0).x, ((.slice ((fr24 4).ob) 2 ((fr24 4).cap)) : Value).cells.toList.all Value.oneCell' = true]) (fun fr24 => by kernel_rfl) (fun fr24 => ⟨rfl, rfl, rfl, rfl, rfl, rfl, rfl, (show (1 + 1) * (64 + 1) ≤ 70368744177664 by decide), rfl, rfl, rfl, rfl, trivial⟩) ?_
  intro fr24
  refine GS.conv (mem' := [(4, .cells ((fr1 0).x) 28 (kc22 ((fr24 4).ob) ((fr24 4).cap) x19 x20 x21 x22)), (5, .cells ((fr1 1).x) 52 (kc21)), (6, .cells ((fr1 2).x) 28 (kc0)), (8, .osl ((fr24 4).ob) ((fr24 4).cap) 52 7 [(kc12), (kc21)]), (9, .osl x19 x20 47 5 [(kc17)]), (10, .osl x21 x22 42 4 [(kc19)])]) rfl (congrArg (fun rr : List (List Value) => ([(4, .cells ((fr1 0).x) 28 (kc22 ((fr24 4).ob) ((fr24 4).cap) x19 x20 x21 x22)), (5, .cells ((fr1 1).x) 52 (kc21)), (6, .cells ((fr1 2).x) 28 (kc0)), (8, .osl ((fr24 4).ob) ((fr24 4).cap) 52 7 rr), (9, .osl x19 x20 47 5 [(kc17)]), (10, .osl x21 x22 42 4 [(kc19)])] : List (Nat × Ent))) (show ([(kc12)] : List (List Value)) ++ ([(kc21)] : List (List Value)) = ([(kc12), (kc21)] : List (List Value)) from rfl)) ?_
  refine GS.seq ?_
  refine GS.rg (fun fr25 => [(2, .int .u32 0), (3, .pointer (some ⟨(fr1 0).x, 0, none⟩)), (4, .pointer (some ⟨(fr1 1).x, 0, none⟩)), (6, .pointer (some ⟨(fr1 2).x, 0, none⟩)), (10, .pointer (some ⟨(fr25 9).x, 0, none⟩))]) (fun fr25 => [(4, .cells ((fr1 0).x) 28 (kc22 ((fr24 4).ob) ((fr24 4).cap) x19 x20 x21 x22)), (5, .cells ((fr1 1).x) 52 (kc21)), (6, .cells ((fr1 2).x) 28 (kc0)), (8, .osl ((fr24 4).ob) ((fr24 4).cap) 52 7 [(kc12), (kc21)]), (9, .osl x19 x20 47 5 [(kc17)]), (10, .osl x21 x22 42 4 [(kc19)]), (12, .cells ((fr25 9).x) 47 (kc23))]) [(1, { act := .load 5 0 0 [] }), (3, { act := .load 5 0 0 [] }), (5, { act := .load 5 0 0 [] }), (7, { act := .load 5 0 0 [] }), (9, { act := .new .var, key := some 12 }), (10, { act := .store 0 0 [], key := some 12 })] [2, 3, 4, 6, 10] [4, 5, 6, 8, 9, 10, 12] (fun fr25 => [(fr1 1).x = (fr1 1).x, (fr1 1).x = (fr1 1).x, (fr1 1).x = (fr1 1).x, (fr1 1).x = (fr1 1).x, (fr25 9).x = (fr25 9).x, ((.agg ((kc23)).toArray) : Value).cells.toList.all Value.oneCell' = true]) (fun fr25 => by kernel_rfl) (fun fr25 => ⟨rfl, rfl, rfl, rfl, rfl, rfl, trivial⟩) ?_
  intro fr25
  refine GS.seq ?_
  refine GS.seq ?_
  refine bnd_elim hm (fun y27 e28 hm => ?_)
  refine GS.rgM (fun _ => [(2, .int .u32 0), (3, .pointer (some ⟨(fr1 0).x, 0, none⟩)), (4, .pointer (some ⟨(fr1 1).x, 0, none⟩)), (6, .pointer (some ⟨(fr1 2).x, 0, none⟩)), (10, .pointer (some ⟨(fr25 9).x, 0, none⟩)), (11, .int .i64 0), (12, .bool true)]) [(1, { act := .load 4 0 0 [] }), (3, { act := .load 5 0 0 [] }), (4, { act := .call [9] (.tuple #[.int .i64 0, .bool true]) })] [2, 3, 4, 6, 10, 11, 12] [4, 5, 6, 8, 9, 10, 12] (fun _ => [(fr1 0).x = (fr1 0).x, (fr1 1).x = (fr1 1).x, CallOK Try.prog 41 #[.slice x19 1 x20, .func (.func 37) #[] #[], .int .i64 3] (.tuple #[.int .i64 0, .bool true]) [some (.osl x19 x20 47 5 [(kc17)])]]) (fun _ => by kernel_rfl) (fun _ => ⟨rfl, rfl, (by have h1 := w_pglog_look_api_Last_int__3 F x19 x20 e28; exact h1.ok ⟨(.inl ⟨.osl x19 x20 47 5 [(kc17)], .head _, Cov.osl_rd⟩), trivial⟩), trivial⟩) ?_
  intro _
  refine GS.seq ?_
  refine GS.rzM (fun _ => [(2, .int .u32 0), (3, .pointer (some ⟨(fr1 0).x, 0, none⟩)), (4, .pointer (some ⟨(fr1 1).x, 0, none⟩)), (6, .pointer (some ⟨(fr1 2).x, 0, none⟩)), (10, .pointer (some ⟨(fr25 9).x, 0, none⟩)), (11, .int .i64 0), (92, .bool true)]) [] [2, 3, 4, 6, 10, 11, 92] [4, 5, 6, 8, 9, 10, 12] (fun _ => by kernel_rfl) ?_
  intro _
  refine GS.cond (t := true) rfl rfl (fun _ => ?_) (fun hf => by cases hf)
  refine GS.rg (fun _ => [(2, .int .u32 0), (3, .pointer (some ⟨(fr1 0).x, 0, none⟩)), (4, .pointer (some ⟨(fr1 1).x, 0, none⟩)), (6, .pointer (some ⟨(fr1 2).x, 0, none⟩))]) (fun _ => [(4, .cells ((fr1 0).x) 28 (kc22 ((fr24 4).ob) ((fr24 4).cap) x19 x20 x21 x22)), (5, .cells ((fr1 1).x) 52 (kc21)), (6, .cells ((fr1 2).x) 28 (kc0)), (8, .osl ((fr24 4).ob) ((fr24 4).cap) 52 7 [(kc12), (kc21)]), (9, .osl x19 x20 47 5 (([(kc17)] : List (List Value)).set 0 [.int .i64 3, .int .i64 2, .int .i64 0, .int .i64 1, .int .i64 2])), (10, .osl x21 x22 42 4 [(kc19)])]) [(1, { act := .load 4 0 0 [] }), (3, { act := .load 12 0 0 [] }), (4, { act := .idx 9 0 }), (5, { act := .store 0 0 [.int .i64 3, .int .i64 1, .int .i64 0, .int .i64 1, .int .i64 1], key := some 9 })] [2, 3, 4, 6] [4, 5, 6, 8, 9, 10] (fun _ => [(fr1 0).x = (fr1 0).x, (fr25 9).x = (fr25 9).x, x19 = x19, 1 = ([(kc17)] : List (List Value)).length, (0 : Int) = ((0 : Nat) : Int), 0 < 1, blk x19 = blk x19, offs x19 + 0 * 5 = offs x19 + (0 * 5 + 0), ([(kc17)] : List (List Value))[0]? = some [.int .i64 3, .int .i64 1, .int .i64 0, .int .i64 1, .int .i64 1], ((.agg ((kc23)).toArray) : Value).cells.toList.all Value.oneCell' = true]) (fun _ => by kernel_rfl) (fun _ => ⟨rfl, rfl, rfl, rfl, rfl, (Nat.le_of_ble_eq_true rfl), rfl, rfl, rfl, rfl, trivial⟩) ?_
  intro _
  refine GS.conv (mem' := [(4, .cells ((fr1 0).x) 28 (kc22 ((fr24 4).ob) ((fr24 4).cap) x19 x20 x21 x22)), (5, .cells ((fr1 1).x) 52 (kc21)), (6, .cells ((fr1 2).x) 28 (kc0)), (8, .osl ((fr24 4).ob) ((fr24 4).cap) 52 7 [(kc12), (kc21)]), (9, .osl x19 x20 47 5 [(kc23)]), (10, .osl x21 x22 42 4 [(kc19)])]) rfl (congrArg (fun rr : List (List Value) => ([(4, .cells ((fr1 0).x) 28 (kc22 ((fr24 4).ob) ((fr24 4).cap) x19 x20 x21 x22)), (5, .cells ((fr1 1).x) 52 (kc21)), (6, .cells ((fr1 2).x) 28 (kc0)), (8, .osl ((fr24 4).ob) ((fr24 4).cap) 52 7 [(kc12), (kc21)]), (9, .osl x19 x20 47 5 rr), (10, .osl x21 x22 42 4 [(kc19)])] : List (Nat × Ent))) (show ([(kc17)] : List (List Value)).set 0 [.int .i64 3, .int .i64 2, .int .i64 0, .int .i64 1, .int .i64 2] = ([(kc23)] : List (List Value)) from rfl)) ?_
  refine GS.seq ?_
  refine GS.seq ?_
  refine GS.rgM (fun _ => [(2, .int .u32 0), (3, .pointer (some ⟨(fr1 0).x, 0, none⟩)), (4, .pointer (some ⟨(fr1 1).x, 0, none⟩)), (6, .pointer (some ⟨(fr1 2).x, 0, none⟩)), (107, .bool false)]) [(1, { act := .load 5 0 0 [] })] [2, 3, 4, 6, 107] [4, 5, 6, 8, 9, 10] (fun _ => [(fr1 1).x = (fr1 1).x]) (fun _ => by kernel_rfl) (fun _ => ⟨rfl, trivial⟩) ?_
  intro _
  refine GS.cond (t := false) rfl rfl (fun hf => by cases hf) (fun _ => ?_)
  refine GS.skip ?_
  refine GS.seq ?_
  refine bnd_elim hm (fun y33 e34 hm => ?_)
  refine GS.rgM (fun _ => [(2, .int .u32 0), (3, .pointer (some ⟨(fr1 0).x, 0, none⟩)), (4, .pointer (some ⟨(fr1 1).x, 0, none⟩)), (6, .pointer (some ⟨(fr1 2).x, 0, none⟩)), (13, .int .i64 0), (14, .bool true)]) [(1, { act := .load 4 0 0 [] }), (3, { act := .load 5 0 0 [] }), (4, { act := .call [10] (.tuple #[.int .i64 0, .bool true]) })] [2, 3, 4, 6, 13, 14] [4, 5, 6, 8, 9, 10] (fun _ => [(fr1 0).x = (fr1 0).x, (fr1 1).x = (fr1 1).x, CallOK Try.prog 43 #[.slice x21 1 x22, .func (.func 35) #[] #[], .string (ByteArray.mk #[102])] (.tuple #[.int .i64 0, .bool true]) [some (.osl x21 x22 42 4 [(kc19)])]]) (fun _ => by kernel_rfl) (fun _ => ⟨rfl, rfl, (by have h1 := w_pglog_look_api_Item_string__3 F x21 x22 e34; exact h1.ok ⟨(.inl ⟨.osl x21 x22 42 4 [(kc19)], .head _, Cov.osl_rd⟩), trivial⟩), trivial⟩) ?_
  intro _
  refine GS.seq ?_
  refine GS.rg (fun fr35 => [(3, .pointer (some ⟨(fr1 0).x, 0, none⟩)), (4, .pointer (some ⟨(fr1 1).x, 0, none⟩)), (6, .pointer (some ⟨(fr1 2).x, 0, none⟩)), (13, .int .i64 0), (14, .bool true), (15, .pointer (some ⟨(fr35 6).x, 0, none⟩))]) (fun fr35 => [(4, .cells ((fr1 0).x) 28 (kc22 ((fr24 4).ob) ((fr24 4).cap) x19 x20 x21 x22)), (5, .cells ((fr1 1).x) 52 (kc21)), (6, .cells ((fr1 2).x) 28 (kc0)), (8, .osl ((fr24 4).ob) ((fr24 4).cap) 52 7 [(kc12), (kc21)]), (9, .osl x19 x20 47 5 [(kc23)]), (10, .osl x21 x22 42 4 [(kc19)]), (13, .cells ((fr35 6).x) 42 (kc24))]) [(1, { act := .load 5 0 0 [] }), (3, { act := .load 5 0 0 [] }), (6, { act := .new .var, key := some 13 }), (7, { act := .store 0 0 [], key := some 13 })] [3, 4, 6, 13, 14, 15] [4, 5, 6, 8, 9, 10, 13] (fun fr35 => [(fr1 1).x = (fr1 1).x, (fr1 1).x = (fr1 1).x, (fr35 6).x = (fr35 6).x, ((.agg ((kc24)).toArray) : Value).cells.toList.all Value.oneCell' = true]) (fun fr35 => by kernel_rfl) (fun fr35 => ⟨rfl, rfl, rfl, rfl, trivial⟩) ?_
  intro fr35
  refine GS.seq ?_
  refine GS.block ?_
  refine GS.seq ?_
  refine GS.rgM (fun _ => [(3, .pointer (some ⟨(fr1 0).x, 0, none⟩)), (4, .pointer (some ⟨(fr1 1).x, 0, none⟩)), (6, .pointer (some ⟨(fr1 2).x, 0, none⟩)), (13, .int .i64 0), (14, .bool true), (15, .pointer (some ⟨(fr35 6).x, 0, none⟩)), (130, .bool true)]) [(1, { act := .load 5 0 0 [] })] [3, 4, 6, 13, 14, 15, 130] [4, 5, 6, 8, 9, 10, 13] (fun _ => [(fr1 1).x = (fr1 1).x]) (fun _ => by kernel_rfl) (fun _ => ⟨rfl, trivial⟩) ?_
  intro _
  refine GS.cond (t := true) rfl rfl (fun _ => ?_) (fun hf => by cases hf)
  refine GS.know (p := x21.isNone = false) (fun w hw => ne_osl (hw.ok 10 _ rfl)) (fun k37 => ?_)
  refine GS.know (p := 1 ≤ x22) (fun w hw => (hw.ok 10 _ rfl).1.1) (fun k38 => ?_)
  refine bnd_elim hm (fun y40 e41 hm => ?_)
  refine GS.open_ ?_
  refine GR.ru (i := 0) 5 (env' := fun _ => [(3, .pointer (some ⟨(fr1 0).x, 0, none⟩)), (6, .pointer (some ⟨(fr1 2).x, 0, none⟩)), (137, .slice x21 1 x22), (138, .int .i64 0), (140, .int .i64 1)]) (mem' := fun _ => [(4, .cells ((fr1 0).x) 28 (kc22 ((fr24 4).ob) ((fr24 4).cap) x19 x20 x21 x22)), (6, .cells ((fr1 2).x) 28 (kc0)), (8, .osl ((fr24 4).ob) ((fr24 4).cap) 52 7 [(kc12), (kc21)]), (9, .osl x19 x20 47 5 [(kc23)]), (10, .osl x21 x22 42 4 [(kc19)])]) (by kernel_rfl) (RunsTo.mk [(1, { act := .load 4 0 0 [] })] [3, 6, 137, 138, 140] [4, 6, 8, 9, 10] (fun _ => [(fr1 0).x = (fr1 0).x]) (fun _ => by kernel_rfl) (fun _ => ⟨rfl, trivial⟩)) ?_
  intro _
  refine GR.callG (X := Unit) (i := 5) (g := 44) (args := #[.slice x21 1 x22, .int .i64 0, .int .i64 1]) (v := fun (_ : Unit) => .slice x21 0 x22) (own := [.osl x21 x22 42 4 [(kc19)]]) (ro := []) (es' := fun (_ : Unit) => [.osl x21 x22 42 4 []]) (mem' := fun (_ : Unit) => [(4, .cells ((fr1 0).x) 28 (kc22 ((fr24 4).ob) ((fr24 4).cap) x19 x20 x21 x22)), (6, .cells ((fr1 2).x) 28 (kc0)), (8, .osl ((fr24 4).ob) ((fr24 4).cap) 52 7 [(kc12), (kc21)]), (9, .osl x19 x20 47 5 [(kc23)]), (10, .osl x21 x22 42 4 [])]) (env' := fun (_ : Unit) => [(3, .pointer (some ⟨(fr1 0).x, 0, none⟩)), (6, .pointer (some ⟨(fr1 2).x, 0, none⟩)), (141, .slice x21 0 x22)]) [10] [10] [3, 6, 141] [4, 6, 8, 9, 10] false (by kernel_rfl) (by kernel_rfl) (by kernel_rfl) (by kernel_rfl) (by kernel_rfl) (fun _ => rfl) (fun _ _ => rfl) trivial (by rintro _; kernel_rfl) (by rintro _; kernel_rfl) ((by have h1 := w_slices_Delete___api_Item_api_Item__2 F x21 x22 k38 e41; exact h1)) ?_
  rintro _
  refine GR.ru (i := 6) 2 (env' := fun _ => [(3, .pointer (some ⟨(fr1 0).x, 0, none⟩)), (6, .pointer (some ⟨(fr1 2).x, 0, none⟩))]) (mem' := fun _ => [(4, .cells ((fr1 0).x) 28 (kc25 ((fr24 4).ob) ((fr24 4).cap) x19 x20 x21 x22)), (6, .cells ((fr1 2).x) 28 (kc0)), (8, .osl ((fr24 4).ob) ((fr24 4).cap) 52 7 [(kc12), (kc21)]), (9, .osl x19 x20 47 5 [(kc23)]), (10, .osl x21 x22 42 4 [])]) (by kernel_rfl) (RunsTo.mk [(7, { act := .store 0 0 [], key := some 4 })] [3, 6] [4, 6, 8, 9, 10] (fun _ => [(fr1 0).x = (fr1 0).x, ((.slice x21 0 x22) : Value).cells.toList.all Value.oneCell' = true]) (fun _ => by kernel_rfl) (fun _ => ⟨rfl, rfl, trivial⟩)) ?_
  intro _
  refine GR.dn (by kernel_rfl) ?_
  refine GS.inBlock ?_
  refine GS.seq ?_
  refine GS.rg (fun _ => [(6, .pointer (some ⟨(fr1 2).x, 0, none⟩)), (7, .int .i64 0)]) (fun _ => [(6, .cells ((fr1 2).x) 28 (kc25 ((fr24 4).ob) ((fr24 4).cap) x19 x20 x21 x22)), (8, .osl ((fr24 4).ob) ((fr24 4).cap) 52 7 [(kc12), (kc21)]), (9, .osl x19 x20 47 5 [(kc23)]), (10, .osl x21 x22 42 4 [])]) [(0, { act := .load 4 0 0 [] }), (1, { act := .store 0 0 [], key := some 6 })] [6, 7] [6, 8, 9, 10] (fun _ => [(fr1 0).x = (fr1 0).x, (fr1 2).x = (fr1 2).x, ((.agg ((kc25 ((fr24 4).ob) ((fr24 4).cap) x19 x20 x21 x22)).toArray) : Value).cells.toList.all Value.oneCell' = true]) (fun _ => by kernel_rfl) (fun _ => ⟨rfl, rfl, rfl, trivial⟩) ?_
  intro _
  have hy := Option.some.inj hm
  subst hy
  refine GS.ret (fn := Try.f28) [6, 0] [.agg ((kc25 ((fr24 4).ob) ((fr24 4).cap) x19 x20 x21 x22)).toArray, .int .i64 0] [(fr1 2).x = (fr1 2).x] rfl Try.func28 (by kernel_rfl) ⟨rfl, trivial⟩ (fun w' hs => ?_)
  exact ⟨⟨(fr24 4).ob, (fr24 4).cap, x19, x20, x21, x22⟩, rfl, hs.turnedG (ks := [8, 9, 10]) rfl rfl⟩

theorem w_pglog_Seen_2 (F : Nat) (a0_3_o : Option Addr) (a0_3_c : Nat) (a0_4_o : Option Addr) (a0_4_c : Nat) (a0_5_o : Option Addr) (a0_5_c : Nat) {y : Unit} (hm : m_pglog_Seen_2 F = some y) : CallG Try.prog 17 #[.agg ((kc25 a0_3_o a0_3_c a0_4_o a0_4_c a0_5_o a0_5_c)).toArray, .int .i64 3, .int .i64 2] (X := Unit) (fun (_ : Unit) => .tuple #[.agg ((kc23)).toArray, .int .i64 1]) [] [.rd a0_3_o 7 [(kc12), (kc21)], .rd a0_4_o 5 [(kc23)], .rd a0_5_o 4 []] (fun (_ : Unit) => []) := by
  intro w hg
  rw [m_pglog_Seen_2] at hm
  refine GS.start (S := mayT [] [.rd a0_3_o 7 [(kc12), (kc21)], .rd a0_4_o 5 [(kc23)], .rd a0_5_o 4 []]) (mem := [(1, .rd a0_3_o 7 [(kc12), (kc21)]), (2, .rd a0_4_o 5 [(kc23)]), (3, .rd a0_5_o 4 [])]) Try.func17 rfl Try.ntmps17 (Nat.le_of_ble_eq_true rfl) (hg.start rfl) ?_
  refine GS.conv (env' := [(0, .agg ((kc25 a0_3_o a0_3_c a0_4_o a0_4_c a0_5_o a0_5_c)).toArray), (1, .int .i64 3), (2, .int .i64 2)]) rfl rfl ?_
  refine GS.seq ?_
  refine GS.rz (fun fr1 => [(1, .int .i64 3), (2, .int .i64 2), (3, .pointer (some ⟨(fr1 0).x, 0, none⟩)), (6, .pointer (some ⟨(fr1 1).x, 0, none⟩))]) (fun fr1 => [(1, .rd a0_3_o 7 [(kc12), (kc21)]), (2, .rd a0_4_o 5 [(kc23)]), (3, .rd a0_5_o 4 []), (4, .cells ((fr1 0).x) 28 (kc25 a0_3_o a0_3_c a0_4_o a0_4_c a0_5_o a0_5_c)), (5, .cells ((fr1 1).x) 47 (kc11))]) [(0, { act := .new .var, key := some 4 }), (1, { act := .new .var, key := some 5 })] [1, 2, 3, 6] [1, 2, 3, 4, 5] (fun fr1 => by kernel_rfl) ?_
  intro fr1
  refine GS.seq ?_
  refine GS.seq ?_
  refine GS.rg (fun _ => [(1, .int .i64 3), (2, .int .i64 2), (6, .pointer (some ⟨(fr1 1).x, 0, none⟩)), (11, .slice a0_4_o 1 a0_4_c), (12, .int .i64 1), (13, .int .i64 0)]) (fun _ => [(2, .rd a0_4_o 5 [(kc23)]), (5, .cells ((fr1 1).x) 47 (kc11))]) [(1, { act := .load 4 0 0 [] })] [1, 2, 6, 11, 12, 13] [2, 5] (fun _ => [(fr1 0).x = (fr1 0).x]) (fun _ => by kernel_rfl) (fun _ => ⟨rfl, trivial⟩) ?_
  intro _
  refine GS.block ?_
  refine GS.loop ?_
  refine GS.seq ?_
  refine GS.rzM (fun _ => [(1, .int .i64 3), (2, .int .i64 2), (6, .pointer (some ⟨(fr1 1).x, 0, none⟩)), (11, .slice a0_4_o 1 a0_4_c), (12, .int .i64 1), (13, .int .i64 0), (14, .bool true)]) [] [1, 2, 6, 11, 12, 13, 14] [2, 5] (fun _ => by kernel_rfl) ?_
  intro _
  refine GS.seq ?_
  refine GS.cond (t := true) rfl rfl (fun _ => ?_) (fun hf => by cases hf)
  refine GS.skip ?_
  refine GS.seq ?_
  refine GS.block ?_
  refine GS.seq ?_
  refine GS.rg (fun fr4 => [(1, .int .i64 3), (2, .int .i64 2), (6, .pointer (some ⟨(fr1 1).x, 0, none⟩)), (9, .pointer (some ⟨(fr4 2).x, 0, none⟩)), (11, .slice a0_4_o 1 a0_4_c), (12, .int .i64 1), (13, .int .i64 0)]) (fun fr4 => [(2, .rd a0_4_o 5 [(kc23)]), (5, .cells ((fr1 1).x) 47 (kc11)), (6, .cells ((fr4 2).x) 47 (kc23))]) [(0, { act := .idx 2 0 }), (1, { act := .load 2 0 0 [.int .i64 3, .int .i64 2, .int .i64 0, .int .i64 1, .int .i64 2] }), (2, { act := .new .var, key := some 6 }), (3, { act := .store 0 0 [], key := some 6 })] [1, 2, 6, 9, 11, 12, 13] [2, 5, 6] (fun fr4 => [a0_4_o = a0_4_o, 1 = ([(kc23)] : List (List Value)).length, (0 : Int) = ((0 : Nat) : Int), 0 < 1, blk a0_4_o = blk a0_4_o, offs a0_4_o + 0 * 5 = offs a0_4_o + (0 * 5 + 0), ([(kc23)] : List (List Value))[0]? = some [.int .i64 3, .int .i64 2, .int .i64 0, .int .i64 1, .int .i64 2], (fr4 2).x = (fr4 2).x, ((.agg ((kc23)).toArray) : Value).cells.toList.all Value.oneCell' = true]) (fun fr4 => by kernel_rfl) (fun fr4 => ⟨rfl, rfl, rfl, (Nat.le_of_ble_eq_true rfl), rfl, rfl, rfl, rfl, rfl, trivial⟩) ?_
  intro fr4
  refine GS.seq ?_
  refine GS.seq ?_
  refine GS.rgM (fun _ => [(1, .int .i64 3), (2, .int .i64 2), (6, .pointer (some ⟨(fr1 1).x, 0, none⟩)), (9, .pointer (some ⟨(fr4 2).x, 0, none⟩)), (11, .slice a0_4_o 1 a0_4_c), (12, .int .i64 1), (13, .int .i64 0), (20, .bool false)]) [(1, { act := .load 6 0 0 [] })] [1, 2, 6, 9, 11, 12, 13, 20] [2, 5, 6] (fun _ => [(fr4 2).x = (fr4 2).x]) (fun _ => by kernel_rfl) (fun _ => ⟨rfl, trivial⟩) ?_
  intro _
  refine GS.cond (t := false) rfl rfl (fun hf => by cases hf) (fun _ => ?_)
  refine GS.skip ?_
  refine GS.seq ?_
  refine GS.block ?_
  refine GS.seq ?_
  refine GS.rg (fun _ => [(2, .int .i64 2), (6, .pointer (some ⟨(fr1 1).x, 0, none⟩)), (9, .pointer (some ⟨(fr4 2).x, 0, none⟩)), (21, .bool true)]) (fun _ => [(5, .cells ((fr1 1).x) 47 (kc11)), (6, .cells ((fr4 2).x) 47 (kc23))]) [(2, { act := .load 6 0 0 [] })] [2, 6, 9, 21] [5, 6] (fun _ => [(fr4 2).x = (fr4 2).x]) (fun _ => by kernel_rfl) (fun _ => ⟨rfl, trivial⟩) ?_
  intro _
  refine GS.cond (t := true) rfl rfl (fun _ => ?_) (fun hf => by cases hf)
  refine GS.seq ?_
  refine GS.rg (fun _ => [(6, .pointer (some ⟨(fr1 1).x, 0, none⟩)), (7, .int .i64 1)]) (fun _ => [(5, .cells ((fr1 1).x) 47 (kc23))]) [(0, { act := .load 6 0 0 [] }), (1, { act := .store 0 0 [], key := some 5 })] [6, 7] [5] (fun _ => [(fr4 2).x = (fr4 2).x, (fr1 1).x = (fr1 1).x, ((.agg ((kc23)).toArray) : Value).cells.toList.all Value.oneCell' = true]) (fun _ => by kernel_rfl) (fun _ => ⟨rfl, rfl, rfl, trivial⟩) ?_
  intro _
  have hy := Option.some.inj hm
  subst hy
  refine GS.ret (fn := Try.f17) [5, 0] [.agg ((kc23)).toArray, .int .i64 1] [(fr1 1).x = (fr1 1).x] rfl Try.func17 (by kernel_rfl) ⟨rfl, trivial⟩ (fun w' hs => ?_)
  exact ⟨(), rfl, hs.turnedG (ks := []) rfl rfl⟩

theorem w_pglog_Head_5 (F : Nat) (a0_3_o : Option Addr) (a0_3_c : Nat) (a0_4_o : Option Addr) (a0_4_c : Nat) (a0_5_o : Option Addr) (a0_5_c : Nat) {y : Unit} (hm : m_pglog_Head_5 F = some y) : CallG Try.prog 23 #[.agg ((kc25 a0_3_o a0_3_c a0_4_o a0_4_c a0_5_o a0_5_c)).toArray] (X := Unit) (fun (_ : Unit) => .agg #[.int .i64 1, .int .i64 2]) [] [.rd a0_3_o 7 [(kc12), (kc21)], .rd a0_4_o 5 [(kc23)], .rd a0_5_o 4 []] (fun (_ : Unit) => []) := by
  intro w hg
  rw [m_pglog_Head_5] at hm
  refine GS.start (S := mayT [] [.rd a0_3_o 7 [(kc12), (kc21)], .rd a0_4_o 5 [(kc23)], .rd a0_5_o 4 []]) (mem := [(1, .rd a0_3_o 7 [(kc12), (kc21)]), (2, .rd a0_4_o 5 [(kc23)]), (3, .rd a0_5_o 4 [])]) Try.func23 rfl Try.ntmps23 (Nat.le_of_ble_eq_true rfl) (hg.start rfl) ?_
  refine GS.conv (env' := [(0, .agg ((kc25 a0_3_o a0_3_c a0_4_o a0_4_c a0_5_o a0_5_c)).toArray)]) rfl rfl ?_
  refine GS.seq ?_
  refine GS.rz (fun fr1 => [(1, .pointer (some ⟨(fr1 0).x, 0, none⟩)), (2, .pointer (some ⟨(fr1 1).x, 0, none⟩))]) (fun fr1 => [(1, .rd a0_3_o 7 [(kc12), (kc21)]), (2, .rd a0_4_o 5 [(kc23)]), (3, .rd a0_5_o 4 []), (4, .cells ((fr1 0).x) 28 (kc25 a0_3_o a0_3_c a0_4_o a0_4_c a0_5_o a0_5_c)), (5, .cells ((fr1 1).x) 23 [.int .i64 0, .int .i64 0])]) [(0, { act := .new .var, key := some 4 }), (1, { act := .new .var, key := some 5 })] [1, 2] [1, 2, 3, 4, 5] (fun fr1 => by kernel_rfl) ?_
  intro fr1
  refine GS.seq ?_
  refine GS.seq ?_
  refine GS.rgM (fun _ => [(1, .pointer (some ⟨(fr1 0).x, 0, none⟩)), (2, .pointer (some ⟨(fr1 1).x, 0, none⟩)), (3, .int .i64 2)]) [(1, { act := .load 4 0 0 [] })] [1, 2, 3] [1, 2, 3, 4, 5] (fun _ => [(fr1 0).x = (fr1 0).x]) (fun _ => by kernel_rfl) (fun _ => ⟨rfl, trivial⟩) ?_
  intro _
  refine GS.seq ?_
  refine GS.rzM (fun _ => [(1, .pointer (some ⟨(fr1 0).x, 0, none⟩)), (2, .pointer (some ⟨(fr1 1).x, 0, none⟩)), (3, .int .i64 2), (8, .bool true)]) [] [1, 2, 3, 8] [1, 2, 3, 4, 5] (fun _ => by kernel_rfl) ?_
  intro _
  refine GS.cond (t := true) rfl rfl (fun _ => ?_) (fun hf => by cases hf)
  refine GS.seq ?_
  refine GS.rg (fun _ => [(2, .pointer (some ⟨(fr1 1).x, 0, none⟩))]) (fun _ => [(5, .cells ((fr1 1).x) 23 [.int .i64 1, .int .i64 2])]) [(1, { act := .load 4 0 0 [] }), (4, { act := .idx 1 1 }), (6, { act := .load 1 1 0 [.int .i64 1, .int .i64 2, .bool true, .int .i64 0, .string (ByteArray.mk #[102]), .int .i64 3, .int .i64 2] }), (7, { act := .store 0 0 [], key := some 5 })] [2] [5] (fun _ => [(fr1 0).x = (fr1 0).x, a0_3_o = a0_3_o, 2 = ([(kc12), (kc21)] : List (List Value)).length, (1 : Int) = ((1 : Nat) : Int), 1 < 2, blk a0_3_o = blk a0_3_o, offs a0_3_o + 1 * 7 = offs a0_3_o + (1 * 7 + 0), ([(kc12), (kc21)] : List (List Value))[1]? = some [.int .i64 1, .int .i64 2, .bool true, .int .i64 0, .string (ByteArray.mk #[102]), .int .i64 3, .int .i64 2], (fr1 1).x = (fr1 1).x, ((.agg #[.int .i64 1, .int .i64 2]) : Value).cells.toList.all Value.oneCell' = true]) (fun _ => by kernel_rfl) (fun _ => ⟨rfl, rfl, rfl, rfl, (Nat.le_of_ble_eq_true rfl), rfl, rfl, rfl, rfl, rfl, trivial⟩) ?_
  intro _
  have hy := Option.some.inj hm
  subst hy
  refine GS.ret (fn := Try.f23) [5] [.agg #[.int .i64 1, .int .i64 2]] [(fr1 1).x = (fr1 1).x] rfl Try.func23 (by kernel_rfl) ⟨rfl, trivial⟩ (fun w' hs => ?_)
  exact ⟨(), rfl, hs.turnedG (ks := []) rfl rfl⟩

theorem w_pglog_below_2 (F : Nat) {y : Unit} (hm : m_pglog_below_2 F = some y) : CallG Try.prog 33 #[.agg #[.int .i64 0, .int .i64 0]] (X := Unit) (fun (_ : Unit) => .bool false) [] [] (fun (_ : Unit) => []) := by
  intro w hg
  rw [m_pglog_below_2] at hm
  refine GS.start (S := mayT [] []) (mem := []) Try.func33 rfl Try.ntmps33 (Nat.le_of_ble_eq_true rfl) (hg.start rfl) ?_
  refine GS.conv (env' := [(0, .agg #[.int .i64 0, .int .i64 0])]) rfl rfl ?_
  refine GS.seq ?_
  refine GS.rz (fun fr1 => [(1, .pointer (some ⟨(fr1 0).x, 0, none⟩))]) (fun fr1 => [(1, .cells ((fr1 0).x) 23 [.int .i64 0, .int .i64 0])]) [(0, { act := .new .var, key := some 1 })] [1] [1] (fun fr1 => by kernel_rfl) ?_
  intro fr1
  refine GS.seq ?_
  refine GS.rg (fun _ => [(2, .bool false)]) (fun _ => []) [(1, { act := .load 1 0 0 [] }), (5, { act := .load 1 0 0 [] })] [2] [] (fun _ => [(fr1 0).x = (fr1 0).x, (fr1 0).x = (fr1 0).x]) (fun _ => by kernel_rfl) (fun _ => ⟨rfl, rfl, trivial⟩) ?_
  intro _
  have hy := Option.some.inj hm
  subst hy
  refine GS.ret (fn := Try.f33) [0] [.bool false] [] rfl Try.func33 (by kernel_rfl) trivial (fun w' hs => ?_)
  exact ⟨(), rfl, hs.turnedG (ks := []) rfl rfl⟩

theorem w_pglog_below_3 (F : Nat) {y : Unit} (hm : m_pglog_below_3 F = some y) : CallG Try.prog 33 #[.agg #[.int .i64 1, .int .i64 1]] (X := Unit) (fun (_ : Unit) => .bool false) [] [] (fun (_ : Unit) => []) := by
  intro w hg
  rw [m_pglog_below_3] at hm
  refine GS.start (S := mayT [] []) (mem := []) Try.func33 rfl Try.ntmps33 (Nat.le_of_ble_eq_true rfl) (hg.start rfl) ?_
  refine GS.conv (env' := [(0, .agg #[.int .i64 1, .int .i64 1])]) rfl rfl ?_
  refine GS.seq ?_
  refine GS.rz (fun fr1 => [(1, .pointer (some ⟨(fr1 0).x, 0, none⟩))]) (fun fr1 => [(1, .cells ((fr1 0).x) 23 [.int .i64 1, .int .i64 1])]) [(0, { act := .new .var, key := some 1 })] [1] [1] (fun fr1 => by kernel_rfl) ?_
  intro fr1
  refine GS.seq ?_
  refine GS.rg (fun _ => [(2, .bool false)]) (fun _ => []) [(1, { act := .load 1 0 0 [] }), (5, { act := .load 1 0 0 [] })] [2] [] (fun _ => [(fr1 0).x = (fr1 0).x, (fr1 0).x = (fr1 0).x]) (fun _ => by kernel_rfl) (fun _ => ⟨rfl, rfl, trivial⟩) ?_
  intro _
  have hy := Option.some.inj hm
  subst hy
  refine GS.ret (fn := Try.f33) [0] [.bool false] [] rfl Try.func33 (by kernel_rfl) trivial (fun w' hs => ?_)
  exact ⟨(), rfl, hs.turnedG (ks := []) rfl rfl⟩

theorem w_pglog_below_4 (F : Nat) {y : Unit} (hm : m_pglog_below_4 F = some y) : CallG Try.prog 33 #[.agg #[.int .i64 1, .int .i64 2]] (X := Unit) (fun (_ : Unit) => .bool false) [] [] (fun (_ : Unit) => []) := by
  intro w hg
  rw [m_pglog_below_4] at hm
  refine GS.start (S := mayT [] []) (mem := []) Try.func33 rfl Try.ntmps33 (Nat.le_of_ble_eq_true rfl) (hg.start rfl) ?_
  refine GS.conv (env' := [(0, .agg #[.int .i64 1, .int .i64 2])]) rfl rfl ?_
  refine GS.seq ?_
  refine GS.rz (fun fr1 => [(1, .pointer (some ⟨(fr1 0).x, 0, none⟩))]) (fun fr1 => [(1, .cells ((fr1 0).x) 23 [.int .i64 1, .int .i64 2])]) [(0, { act := .new .var, key := some 1 })] [1] [1] (fun fr1 => by kernel_rfl) ?_
  intro fr1
  refine GS.seq ?_
  refine GS.rg (fun _ => [(2, .bool false)]) (fun _ => []) [(1, { act := .load 1 0 0 [] }), (5, { act := .load 1 0 0 [] })] [2] [] (fun _ => [(fr1 0).x = (fr1 0).x, (fr1 0).x = (fr1 0).x]) (fun _ => by kernel_rfl) (fun _ => ⟨rfl, rfl, trivial⟩) ?_
  intro _
  have hy := Option.some.inj hm
  subst hy
  refine GS.ret (fn := Try.f33) [0] [.bool false] [] rfl Try.func33 (by kernel_rfl) trivial (fun w' hs => ?_)
  exact ⟨(), rfl, hs.turnedG (ks := []) rfl rfl⟩

theorem w_pglog_rising_api_Item_string__2 (F : Nat) (a0_o : Option Addr) (a0_c : Nat) {y : Unit} (hm : m_pglog_rising_api_Item_string__2 F = some y) : CallG Try.prog 34 #[.slice a0_o 0 a0_c, .func (.func 35) #[] #[]] (X := Unit) (fun (_ : Unit) => .bool true) [] [.rd a0_o 4 []] (fun (_ : Unit) => []) := by
  intro w hg
  rw [m_pglog_rising_api_Item_string__2] at hm
  refine GS.start (S := mayT [] [.rd a0_o 4 []]) (mem := [(1, .rd a0_o 4 [])]) Try.func34 rfl Try.ntmps34 (Nat.le_of_ble_eq_true rfl) (hg.start rfl) ?_
  refine GS.conv (env' := [(0, .slice a0_o 0 a0_c), (1, .func (.func 35) #[] #[])]) rfl rfl ?_
  refine GS.seq ?_
  refine GS.rzM (fun _ => [(0, .slice a0_o 0 a0_c), (1, .func (.func 35) #[] #[])]) [] [0, 1] [1] (fun _ => by kernel_rfl) ?_
  intro _
  refine GS.seq ?_
  refine GS.seq ?_
  refine GS.rzM (fun _ => [(0, .slice a0_o 0 a0_c), (1, .func (.func 35) #[] #[]), (5, .int .i64 1)]) [] [0, 1, 5] [1] (fun _ => by kernel_rfl) ?_
  intro _
  refine GS.block ?_
  refine GS.loop ?_
  refine GS.seq ?_
  refine GS.seq ?_
  refine GS.rzM (fun _ => [(0, .slice a0_o 0 a0_c), (1, .func (.func 35) #[] #[]), (5, .int .i64 1), (9, .bool false)]) [] [0, 1, 5, 9] [1] (fun _ => by kernel_rfl) ?_
  intro _
  refine GS.cond (t := false) rfl rfl (fun hf => by cases hf) (fun _ => ?_)
  refine GS.exit rfl ?_
  refine GS.seq ?_
  refine GS.rz (fun _ => [(4, .bool true)]) (fun _ => []) [] [4] [] (fun _ => by kernel_rfl) ?_
  intro _
  have hy := Option.some.inj hm
  subst hy
  refine GS.ret (fn := Try.f34) [0] [.bool true] [] rfl Try.func34 (by kernel_rfl) trivial (fun w' hs => ?_)
  exact ⟨(), rfl, hs.turnedG (ks := []) rfl rfl⟩

theorem w_pglog_rising_api_Last_int__2 (F : Nat) (a0_o : Option Addr) (a0_c : Nat) {y : Unit} (hm : m_pglog_rising_api_Last_int__2 F = some y) : CallG Try.prog 36 #[.slice a0_o 1 a0_c, .func (.func 37) #[] #[]] (X := Unit) (fun (_ : Unit) => .bool true) [] [.rd a0_o 5 [(kc23)]] (fun (_ : Unit) => []) := by
  intro w hg
  rw [m_pglog_rising_api_Last_int__2] at hm
  refine GS.start (S := mayT [] [.rd a0_o 5 [(kc23)]]) (mem := [(1, .rd a0_o 5 [(kc23)])]) Try.func36 rfl Try.ntmps36 (Nat.le_of_ble_eq_true rfl) (hg.start rfl) ?_
  refine GS.conv (env' := [(0, .slice a0_o 1 a0_c), (1, .func (.func 37) #[] #[])]) rfl rfl ?_
  refine GS.seq ?_
  refine GS.rzM (fun _ => [(0, .slice a0_o 1 a0_c), (1, .func (.func 37) #[] #[])]) [] [0, 1] [1] (fun _ => by kernel_rfl) ?_
  intro _
  refine GS.seq ?_
  refine GS.seq ?_
  refine GS.rzM (fun _ => [(0, .slice a0_o 1 a0_c), (1, .func (.func 37) #[] #[]), (5, .int .i64 1)]) [] [0, 1, 5] [1] (fun _ => by kernel_rfl) ?_
  intro _
  refine GS.block ?_
  refine GS.loop ?_
  refine GS.seq ?_
  refine GS.seq ?_
  refine GS.rzM (fun _ => [(0, .slice a0_o 1 a0_c), (1, .func (.func 37) #[] #[]), (5, .int .i64 1), (9, .bool false)]) [] [0, 1, 5, 9] [1] (fun _ => by kernel_rfl) ?_
  intro _
  refine GS.cond (t := false) rfl rfl (fun hf => by cases hf) (fun _ => ?_)
  refine GS.exit rfl ?_
  refine GS.seq ?_
  refine GS.rz (fun _ => [(4, .bool true)]) (fun _ => []) [] [4] [] (fun _ => by kernel_rfl) ?_
  intro _
  have hy := Option.some.inj hm
  subst hy
  refine GS.ret (fn := Try.f36) [0] [.bool true] [] rfl Try.func36 (by kernel_rfl) trivial (fun w' hs => ?_)
  exact ⟨(), rfl, hs.turnedG (ks := []) rfl rfl⟩

theorem w_cmp_Compare_int__6 (F : Nat) {y : Unit} (hm : m_cmp_Compare_int__6 F = some y) : CallG Try.prog 29 #[.int .i64 2, .int .i64 2] (X := Unit) (fun (_ : Unit) => .int .i64 0) [] [] (fun (_ : Unit) => []) := by
  intro w hg
  rw [m_cmp_Compare_int__6] at hm
  refine GS.start (S := mayT [] []) (mem := []) Try.func29 rfl Try.ntmps29 (Nat.le_of_ble_eq_true rfl) (hg.start rfl) ?_
  refine GS.conv (env' := [(0, .int .i64 2), (1, .int .i64 2)]) rfl rfl ?_
  refine GS.seq ?_
  refine GS.rzM (fun _ => [(0, .int .i64 2), (1, .int .i64 2)]) [] [0, 1] [] (fun _ => by kernel_rfl) ?_
  intro _
  refine GS.seq ?_
  refine bnd_elim hm (fun y3 e4 hm => ?_)
  refine GS.rgM (fun _ => [(0, .int .i64 2), (1, .int .i64 2), (5, .bool false)]) [(1, { act := .call [] (.bool false) })] [0, 1, 5] [] (fun _ => [CallOK Try.prog 46 #[.int .i64 2] (.bool false) []]) (fun _ => by kernel_rfl) (fun _ => ⟨(by have h1 := w_cmp_isNaN_int__4 F  e4; exact h1.ok trivial), trivial⟩) ?_
  intro _
  refine GS.seq ?_
  refine bnd_elim hm (fun y6 e7 hm => ?_)
  refine GS.rgM (fun _ => [(0, .int .i64 2), (1, .int .i64 2), (5, .bool false), (6, .bool false)]) [(1, { act := .call [] (.bool false) })] [0, 1, 5, 6] [] (fun _ => [CallOK Try.prog 46 #[.int .i64 2] (.bool false) []]) (fun _ => by kernel_rfl) (fun _ => ⟨(by have h1 := w_cmp_isNaN_int__4 F  e7; exact h1.ok trivial), trivial⟩) ?_
  intro _
  refine GS.seq ?_
  refine GS.seq ?_
  refine GS.rzM (fun _ => [(0, .int .i64 2), (1, .int .i64 2), (6, .bool false), (11, .bool false)]) [] [0, 1, 6, 11] [] (fun _ => by kernel_rfl) ?_
  intro _
  refine GS.cond (t := false) rfl rfl (fun hf => by cases hf) (fun _ => ?_)
  refine GS.skip ?_
  refine GS.seq ?_
  refine GS.seq ?_
  refine GS.rzM (fun _ => [(0, .int .i64 2), (1, .int .i64 2), (13, .bool false)]) [] [0, 1, 13] [] (fun _ => by kernel_rfl) ?_
  intro _
  refine GS.cond (t := false) rfl rfl (fun hf => by cases hf) (fun _ => ?_)
  refine GS.skip ?_
  refine GS.seq ?_
  refine GS.seq ?_
  refine GS.rzM (fun _ => [(0, .int .i64 2), (1, .int .i64 2), (16, .bool false)]) [] [0, 1, 16] [] (fun _ => by kernel_rfl) ?_
  intro _
  refine GS.cond (t := false) rfl rfl (fun hf => by cases hf) (fun _ => ?_)
  refine GS.skip ?_
  refine GS.seq ?_
  refine GS.seq ?_
  refine GS.rzM (fun _ => [(19, .bool false)]) [] [19] [] (fun _ => by kernel_rfl) ?_
  intro _
  refine GS.cond (t := false) rfl rfl (fun hf => by cases hf) (fun _ => ?_)
  refine GS.skip ?_
  refine GS.seq ?_
  refine GS.rzM (fun _ => [(4, .int .i64 0)]) [] [4] [] (fun _ => by kernel_rfl) ?_
  intro _
  have hy := Option.some.inj hm
  subst hy
  refine GS.ret (fn := Try.f29) [0] [.int .i64 0] [] rfl Try.func29 (by kernel_rfl) trivial (fun w' hs => ?_)
  exact ⟨(), rfl, hs.turnedG (ks := []) rfl rfl⟩

theorem w_pglog_Cmp_4 (F : Nat) {y : Unit} (hm : m_pglog_Cmp_4 F = some y) : CallG Try.prog 7 #[.agg #[.int .i64 1, .int .i64 2], .agg #[.int .i64 1, .int .i64 2]] (X := Unit) (fun (_ : Unit) => .int .i64 0) [] [] (fun (_ : Unit) => []) := by
  intro w hg
  rw [m_pglog_Cmp_4] at hm
  refine GS.start (S := mayT [] []) (mem := []) Try.func7 rfl Try.ntmps7 (Nat.le_of_ble_eq_true rfl) (hg.start rfl) ?_
  refine GS.conv (env' := [(0, .agg #[.int .i64 1, .int .i64 2]), (1, .agg #[.int .i64 1, .int .i64 2])]) rfl rfl ?_
  refine GS.seq ?_
  refine GS.rz (fun fr1 => [(2, .pointer (some ⟨(fr1 0).x, 0, none⟩)), (3, .pointer (some ⟨(fr1 1).x, 0, none⟩))]) (fun fr1 => [(1, .cells ((fr1 0).x) 23 [.int .i64 1, .int .i64 2]), (2, .cells ((fr1 1).x) 23 [.int .i64 1, .int .i64 2])]) [(0, { act := .new .var, key := some 1 }), (1, { act := .new .var, key := some 2 })] [2, 3] [1, 2] (fun fr1 => by kernel_rfl) ?_
  intro fr1
  refine GS.seq ?_
  refine GS.seq ?_
  refine bnd_elim hm (fun y3 e4 hm => ?_)
  refine GS.rgM (fun _ => [(2, .pointer (some ⟨(fr1 0).x, 0, none⟩)), (3, .pointer (some ⟨(fr1 1).x, 0, none⟩)), (5, .int .i64 0)]) [(1, { act := .load 1 0 0 [] }), (3, { act := .load 2 0 0 [] }), (4, { act := .call [] (.int .i64 0) })] [2, 3, 5] [1, 2] (fun _ => [(fr1 0).x = (fr1 0).x, (fr1 1).x = (fr1 1).x, CallOK Try.prog 29 #[.int .i64 1, .int .i64 1] (.int .i64 0) []]) (fun _ => by kernel_rfl) (fun _ => ⟨rfl, rfl, (by have h1 := w_cmp_Compare_int__3 F  e4; exact h1.ok trivial), trivial⟩) ?_
  intro _
  refine GS.seq ?_
  refine GS.rzM (fun _ => [(2, .pointer (some ⟨(fr1 0).x, 0, none⟩)), (3, .pointer (some ⟨(fr1 1).x, 0, none⟩)), (5, .int .i64 0), (12, .bool false)]) [] [2, 3, 5, 12] [1, 2] (fun _ => by kernel_rfl) ?_
  intro _
  refine GS.cond (t := false) rfl rfl (fun hf => by cases hf) (fun _ => ?_)
  refine GS.skip ?_
  refine GS.seq ?_
  refine bnd_elim hm (fun y7 e8 hm => ?_)
  refine GS.rg (fun _ => [(4, .int .i64 0)]) (fun _ => []) [(1, { act := .load 1 0 0 [] }), (3, { act := .load 2 0 0 [] }), (4, { act := .call [] (.int .i64 0) })] [4] [] (fun _ => [(fr1 0).x = (fr1 0).x, (fr1 1).x = (fr1 1).x, CallOK Try.prog 29 #[.int .i64 2, .int .i64 2] (.int .i64 0) []]) (fun _ => by kernel_rfl) (fun _ => ⟨rfl, rfl, (by have h1 := w_cmp_Compare_int__6 F  e8; exact h1.ok trivial), trivial⟩) ?_
  intro _
  have hy := Option.some.inj hm
  subst hy
  refine GS.ret (fn := Try.f7) [0] [.int .i64 0] [] rfl Try.func7 (by kernel_rfl) trivial (fun w' hs => ?_)
  exact ⟨(), rfl, hs.turnedG (ks := []) rfl rfl⟩

theorem w_pglog_Check_2 (F : Nat) (a0_3_o : Option Addr) (a0_3_c : Nat) (a0_4_o : Option Addr) (a0_4_c : Nat) (a0_5_o : Option Addr) (a0_5_c : Nat) {y : Unit} (hm : m_pglog_Check_2 F = some y) : CallG Try.prog 21 #[.agg ((kc25 a0_3_o a0_3_c a0_4_o a0_4_c a0_5_o a0_5_c)).toArray] (X := Unit) (fun (_ : Unit) => .int .i64 0) [] [.rd a0_3_o 7 [(kc12), (kc21)], .rd a0_4_o 5 [(kc23)], .rd a0_5_o 4 []] (fun (_ : Unit) => []) := by
  intro w hg
  rw [m_pglog_Check_2] at hm
  refine GS.start (S := mayT [] [.rd a0_3_o 7 [(kc12), (kc21)], .rd a0_4_o 5 [(kc23)], .rd a0_5_o 4 []]) (mem := [(1, .rd a0_3_o 7 [(kc12), (kc21)]), (2, .rd a0_4_o 5 [(kc23)]), (3, .rd a0_5_o 4 [])]) Try.func21 rfl Try.ntmps21 (Nat.le_of_ble_eq_true rfl) (hg.start rfl) ?_
  refine GS.conv (env' := [(0, .agg ((kc25 a0_3_o a0_3_c a0_4_o a0_4_c a0_5_o a0_5_c)).toArray)]) rfl rfl ?_
  refine GS.seq ?_
  refine GS.rz (fun fr1 => [(1, .pointer (some ⟨(fr1 0).x, 0, none⟩))]) (fun fr1 => [(1, .rd a0_3_o 7 [(kc12), (kc21)]), (2, .rd a0_4_o 5 [(kc23)]), (3, .rd a0_5_o 4 []), (4, .cells ((fr1 0).x) 28 (kc25 a0_3_o a0_3_c a0_4_o a0_4_c a0_5_o a0_5_c))]) [(0, { act := .new .var, key := some 4 })] [1] [1, 2, 3, 4] (fun fr1 => by kernel_rfl) ?_
  intro fr1
  refine GS.seq ?_
  refine GS.seq ?_
  refine bnd_elim hm (fun y3 e4 hm => ?_)
  refine GS.rgM (fun _ => [(1, .pointer (some ⟨(fr1 0).x, 0, none⟩)), (23, .bool false)]) [(1, { act := .load 4 0 0 [] }), (5, { act := .load 4 0 0 [] }), (6, { act := .call [] (.bool false) }), (10, { act := .load 4 0 0 [] })] [1, 23] [1, 2, 3, 4] (fun _ => [(fr1 0).x = (fr1 0).x, (fr1 0).x = (fr1 0).x, CallOK Try.prog 33 #[.agg #[.int .i64 0, .int .i64 0]] (.bool false) [], (fr1 0).x = (fr1 0).x]) (fun _ => by kernel_rfl) (fun _ => ⟨rfl, rfl, (by have h1 := w_pglog_below_2 F  e4; exact h1.ok trivial), rfl, trivial⟩) ?_
  intro _
  refine GS.cond (t := false) rfl rfl (fun hf => by cases hf) (fun _ => ?_)
  refine GS.skip ?_
  refine GS.seq ?_
  refine GS.rg (fun fr5 => [(1, .pointer (some ⟨(fr1 0).x, 0, none⟩)), (3, .pointer (some ⟨(fr5 2).x, 0, none⟩))]) (fun fr5 => [(1, .rd a0_3_o 7 [(kc12), (kc21)]), (2, .rd a0_4_o 5 [(kc23)]), (3, .rd a0_5_o 4 []), (4, .cells ((fr1 0).x) 28 (kc25 a0_3_o a0_3_c a0_4_o a0_4_c a0_5_o a0_5_c)), (5, .cells ((fr5 2).x) 23 [.int .i64 0, .int .i64 0])]) [(1, { act := .load 4 0 0 [] }), (2, { act := .new .var, key := some 5 }), (3, { act := .store 0 0 [], key := some 5 })] [1, 3] [1, 2, 3, 4, 5] (fun fr5 => [(fr1 0).x = (fr1 0).x, (fr5 2).x = (fr5 2).x, ((.agg #[.int .i64 0, .int .i64 0]) : Value).cells.toList.all Value.oneCell' = true]) (fun fr5 => by kernel_rfl) (fun fr5 => ⟨rfl, rfl, rfl, trivial⟩) ?_
  intro fr5
  refine GS.seq ?_
  refine GS.seq ?_
  refine GS.rgM (fun _ => [(1, .pointer (some ⟨(fr1 0).x, 0, none⟩)), (3, .pointer (some ⟨(fr5 2).x, 0, none⟩)), (27, .slice a0_3_o 2 a0_3_c), (28, .int .i64 2), (29, .int .i64 0)]) [(1, { act := .load 4 0 0 [] })] [1, 3, 27, 28, 29] [1, 2, 3, 4, 5] (fun _ => [(fr1 0).x = (fr1 0).x]) (fun _ => by kernel_rfl) (fun _ => ⟨rfl, trivial⟩) ?_
  intro _
  refine GS.block ?_
  refine GS.loop ?_
  refine GS.seq ?_
  refine GS.rzM (fun _ => [(1, .pointer (some ⟨(fr1 0).x, 0, none⟩)), (3, .pointer (some ⟨(fr5 2).x, 0, none⟩)), (27, .slice a0_3_o 2 a0_3_c), (28, .int .i64 2), (29, .int .i64 0), (30, .bool true)]) [] [1, 3, 27, 28, 29, 30] [1, 2, 3, 4, 5] (fun _ => by kernel_rfl) ?_
  intro _
  refine GS.seq ?_
  refine GS.cond (t := true) rfl rfl (fun _ => ?_) (fun hf => by cases hf)
  refine GS.skip ?_
  refine GS.seq ?_
  refine GS.block ?_
  refine GS.seq ?_
  refine GS.rg (fun fr8 => [(1, .pointer (some ⟨(fr1 0).x, 0, none⟩)), (3, .pointer (some ⟨(fr5 2).x, 0, none⟩)), (5, .pointer (some ⟨(fr8 2).x, 0, none⟩)), (27, .slice a0_3_o 2 a0_3_c), (28, .int .i64 2), (29, .int .i64 0)]) (fun fr8 => [(1, .rd a0_3_o 7 [(kc12), (kc21)]), (2, .rd a0_4_o 5 [(kc23)]), (3, .rd a0_5_o 4 []), (4, .cells ((fr1 0).x) 28 (kc25 a0_3_o a0_3_c a0_4_o a0_4_c a0_5_o a0_5_c)), (5, .cells ((fr5 2).x) 23 [.int .i64 0, .int .i64 0]), (6, .cells ((fr8 2).x) 52 (kc12))]) [(0, { act := .idx 1 0 }), (1, { act := .load 1 0 0 [.int .i64 1, .int .i64 1, .bool false, .int .i64 0, .string (ByteArray.mk #[102]), .int .i64 3, .int .i64 1] }), (2, { act := .new .var, key := some 6 }), (3, { act := .store 0 0 [], key := some 6 })] [1, 3, 5, 27, 28, 29] [1, 2, 3, 4, 5, 6] (fun fr8 => [a0_3_o = a0_3_o, 2 = ([(kc12), (kc21)] : List (List Value)).length, (0 : Int) = ((0 : Nat) : Int), 0 < 2, blk a0_3_o = blk a0_3_o, offs a0_3_o + 0 * 7 = offs a0_3_o + (0 * 7 + 0), ([(kc12), (kc21)] : List (List Value))[0]? = some [.int .i64 1, .int .i64 1, .bool false, .int .i64 0, .string (ByteArray.mk #[102]), .int .i64 3, .int .i64 1], (fr8 2).x = (fr8 2).x, ((.agg ((kc12)).toArray) : Value).cells.toList.all Value.oneCell' = true]) (fun fr8 => by kernel_rfl) (fun fr8 => ⟨rfl, rfl, rfl, (Nat.le_of_ble_eq_true rfl), rfl, rfl, rfl, rfl, rfl, trivial⟩) ?_
  intro fr8
  refine GS.seq ?_
  refine GS.seq ?_
  refine bnd_elim hm (fun y10 e11 hm => ?_)
  refine bnd_elim hm (fun y12 e13 hm => ?_)
  refine GS.rgM (fun _ => [(1, .pointer (some ⟨(fr1 0).x, 0, none⟩)), (3, .pointer (some ⟨(fr5 2).x, 0, none⟩)), (5, .pointer (some ⟨(fr8 2).x, 0, none⟩)), (27, .slice a0_3_o 2 a0_3_c), (28, .int .i64 2), (29, .int .i64 0), (42, .bool false)]) [(1, { act := .load 6 0 0 [] }), (2, { act := .call [] (.bool false) }), (5, { act := .load 6 0 0 [] }), (6, { act := .load 5 0 0 [] }), (7, { act := .call [] (.int .i64 1) })] [1, 3, 5, 27, 28, 29, 42] [1, 2, 3, 4, 5, 6] (fun _ => [(fr8 2).x = (fr8 2).x, CallOK Try.prog 33 #[.agg #[.int .i64 1, .int .i64 1]] (.bool false) [], (fr8 2).x = (fr8 2).x, (fr5 2).x = (fr5 2).x, CallOK Try.prog 7 #[.agg #[.int .i64 1, .int .i64 1], .agg #[.int .i64 0, .int .i64 0]] (.int .i64 1) []]) (fun _ => by kernel_rfl) (fun _ => ⟨rfl, (by have h1 := w_pglog_below_3 F  e11; exact h1.ok trivial), rfl, rfl, (by have h1 := w_pglog_Cmp_2 F  e13; exact h1.ok trivial), trivial⟩) ?_
  intro _
  refine GS.cond (t := false) rfl rfl (fun hf => by cases hf) (fun _ => ?_)
  refine GS.skip ?_
  refine GS.rg (fun _ => [(1, .pointer (some ⟨(fr1 0).x, 0, none⟩)), (3, .pointer (some ⟨(fr5 2).x, 0, none⟩)), (27, .slice a0_3_o 2 a0_3_c), (28, .int .i64 2), (29, .int .i64 0)]) (fun _ => [(1, .rd a0_3_o 7 [(kc12), (kc21)]), (2, .rd a0_4_o 5 [(kc23)]), (3, .rd a0_5_o 4 []), (4, .cells ((fr1 0).x) 28 (kc25 a0_3_o a0_3_c a0_4_o a0_4_c a0_5_o a0_5_c)), (5, .cells ((fr5 2).x) 23 [.int .i64 1, .int .i64 1])]) [(1, { act := .load 6 0 0 [] }), (2, { act := .store 0 0 [], key := some 5 })] [1, 3, 27, 28, 29] [1, 2, 3, 4, 5] (fun _ => [(fr8 2).x = (fr8 2).x, (fr5 2).x = (fr5 2).x, ((.agg #[.int .i64 1, .int .i64 1]) : Value).cells.toList.all Value.oneCell' = true]) (fun _ => by kernel_rfl) (fun _ => ⟨rfl, rfl, rfl, trivial⟩) ?_
  intro _
  refine GS.inBlock ?_
  refine GS.rzM (fun _ => [(1, .pointer (some ⟨(fr1 0).x, 0, none⟩)), (3, .pointer (some ⟨(fr5 2).x, 0, none⟩)), (27, .slice a0_3_o 2 a0_3_c), (28, .int .i64 2), (29, .int .i64 1)]) [] [1, 3, 27, 28, 29] [1, 2, 3, 4, 5] (fun _ => by kernel_rfl) ?_
  intro _
  refine GS.inLoop ?_
  refine GS.seq ?_
  refine GS.rzM (fun _ => [(1, .pointer (some ⟨(fr1 0).x, 0, none⟩)), (3, .pointer (some ⟨(fr5 2).x, 0, none⟩)), (27, .slice a0_3_o 2 a0_3_c), (28, .int .i64 2), (29, .int .i64 1), (30, .bool true)]) [] [1, 3, 27, 28, 29, 30] [1, 2, 3, 4, 5] (fun _ => by kernel_rfl) ?_
  intro _
  refine GS.seq ?_
  refine GS.cond (t := true) rfl rfl (fun _ => ?_) (fun hf => by cases hf)
  refine GS.skip ?_
  refine GS.seq ?_
  refine GS.block ?_
  refine GS.seq ?_
  refine GS.rg (fun fr17 => [(1, .pointer (some ⟨(fr1 0).x, 0, none⟩)), (3, .pointer (some ⟨(fr5 2).x, 0, none⟩)), (5, .pointer (some ⟨(fr17 2).x, 0, none⟩)), (27, .slice a0_3_o 2 a0_3_c), (28, .int .i64 2), (29, .int .i64 1)]) (fun fr17 => [(1, .rd a0_3_o 7 [(kc12), (kc21)]), (2, .rd a0_4_o 5 [(kc23)]), (3, .rd a0_5_o 4 []), (4, .cells ((fr1 0).x) 28 (kc25 a0_3_o a0_3_c a0_4_o a0_4_c a0_5_o a0_5_c)), (5, .cells ((fr5 2).x) 23 [.int .i64 1, .int .i64 1]), (7, .cells ((fr17 2).x) 52 (kc21))]) [(0, { act := .idx 1 1 }), (1, { act := .load 1 1 0 [.int .i64 1, .int .i64 2, .bool true, .int .i64 0, .string (ByteArray.mk #[102]), .int .i64 3, .int .i64 2] }), (2, { act := .new .var, key := some 7 }), (3, { act := .store 0 0 [], key := some 7 })] [1, 3, 5, 27, 28, 29] [1, 2, 3, 4, 5, 7] (fun fr17 => [a0_3_o = a0_3_o, 2 = ([(kc12), (kc21)] : List (List Value)).length, (1 : Int) = ((1 : Nat) : Int), 1 < 2, blk a0_3_o = blk a0_3_o, offs a0_3_o + 1 * 7 = offs a0_3_o + (1 * 7 + 0), ([(kc12), (kc21)] : List (List Value))[1]? = some [.int .i64 1, .int .i64 2, .bool true, .int .i64 0, .string (ByteArray.mk #[102]), .int .i64 3, .int .i64 2], (fr17 2).x = (fr17 2).x, ((.agg ((kc21)).toArray) : Value).cells.toList.all Value.oneCell' = true]) (fun fr17 => by kernel_rfl) (fun fr17 => ⟨rfl, rfl, rfl, (Nat.le_of_ble_eq_true rfl), rfl, rfl, rfl, rfl, rfl, trivial⟩) ?_
  intro fr17
  refine GS.seq ?_
  refine GS.seq ?_
  refine bnd_elim hm (fun y19 e20 hm => ?_)
  refine bnd_elim hm (fun y21 e22 hm => ?_)
  refine GS.rgM (fun _ => [(1, .pointer (some ⟨(fr1 0).x, 0, none⟩)), (3, .pointer (some ⟨(fr5 2).x, 0, none⟩)), (5, .pointer (some ⟨(fr17 2).x, 0, none⟩)), (27, .slice a0_3_o 2 a0_3_c), (28, .int .i64 2), (29, .int .i64 1), (42, .bool false)]) [(1, { act := .load 7 0 0 [] }), (2, { act := .call [] (.bool false) }), (5, { act := .load 7 0 0 [] }), (6, { act := .load 5 0 0 [] }), (7, { act := .call [] (.int .i64 1) })] [1, 3, 5, 27, 28, 29, 42] [1, 2, 3, 4, 5, 7] (fun _ => [(fr17 2).x = (fr17 2).x, CallOK Try.prog 33 #[.agg #[.int .i64 1, .int .i64 2]] (.bool false) [], (fr17 2).x = (fr17 2).x, (fr5 2).x = (fr5 2).x, CallOK Try.prog 7 #[.agg #[.int .i64 1, .int .i64 2], .agg #[.int .i64 1, .int .i64 1]] (.int .i64 1) []]) (fun _ => by kernel_rfl) (fun _ => ⟨rfl, (by have h1 := w_pglog_below_4 F  e20; exact h1.ok trivial), rfl, rfl, (by have h1 := w_pglog_Cmp_3 F  e22; exact h1.ok trivial), trivial⟩) ?_
  intro _
  refine GS.cond (t := false) rfl rfl (fun hf => by cases hf) (fun _ => ?_)
  refine GS.skip ?_
  refine GS.rg (fun _ => [(1, .pointer (some ⟨(fr1 0).x, 0, none⟩)), (3, .pointer (some ⟨(fr5 2).x, 0, none⟩)), (27, .slice a0_3_o 2 a0_3_c), (28, .int .i64 2), (29, .int .i64 1)]) (fun _ => [(1, .rd a0_3_o 7 [(kc12), (kc21)]), (2, .rd a0_4_o 5 [(kc23)]), (3, .rd a0_5_o 4 []), (4, .cells ((fr1 0).x) 28 (kc25 a0_3_o a0_3_c a0_4_o a0_4_c a0_5_o a0_5_c)), (5, .cells ((fr5 2).x) 23 [.int .i64 1, .int .i64 2])]) [(1, { act := .load 7 0 0 [] }), (2, { act := .store 0 0 [], key := some 5 })] [1, 3, 27, 28, 29] [1, 2, 3, 4, 5] (fun _ => [(fr17 2).x = (fr17 2).x, (fr5 2).x = (fr5 2).x, ((.agg #[.int .i64 1, .int .i64 2]) : Value).cells.toList.all Value.oneCell' = true]) (fun _ => by kernel_rfl) (fun _ => ⟨rfl, rfl, rfl, trivial⟩) ?_
  intro _
  refine GS.inBlock ?_
  refine GS.rzM (fun _ => [(1, .pointer (some ⟨(fr1 0).x, 0, none⟩)), (3, .pointer (some ⟨(fr5 2).x, 0, none⟩)), (27, .slice a0_3_o 2 a0_3_c), (28, .int .i64 2), (29, .int .i64 2)]) [] [1, 3, 27, 28, 29] [1, 2, 3, 4, 5] (fun _ => by kernel_rfl) ?_
  intro _
  refine GS.inLoop ?_
  refine GS.seq ?_
  refine GS.rzM (fun _ => [(1, .pointer (some ⟨(fr1 0).x, 0, none⟩)), (3, .pointer (some ⟨(fr5 2).x, 0, none⟩)), (27, .slice a0_3_o 2 a0_3_c), (28, .int .i64 2), (29, .int .i64 2), (30, .bool false)]) [] [1, 3, 27, 28, 29, 30] [1, 2, 3, 4, 5] (fun _ => by kernel_rfl) ?_
  intro _
  refine GS.seq ?_
  refine GS.cond (t := false) rfl rfl (fun hf => by cases hf) (fun _ => ?_)
  refine GS.exit rfl ?_
  refine GS.seq ?_
  refine GS.seq ?_
  refine bnd_elim hm (fun y27 e28 hm => ?_)
  refine bnd_elim hm (fun y29 e30 hm => ?_)
  refine GS.rgM (fun _ => [(1, .pointer (some ⟨(fr1 0).x, 0, none⟩)), (3, .pointer (some ⟨(fr5 2).x, 0, none⟩)), (55, .bool false)]) [(1, { act := .load 4 0 0 [] }), (2, { act := .call [3] (.bool true) }), (6, { act := .load 4 0 0 [] }), (7, { act := .call [2] (.bool true) })] [1, 3, 55] [1, 2, 3, 4, 5] (fun _ => [(fr1 0).x = (fr1 0).x, CallOK Try.prog 34 #[.slice a0_5_o 0 a0_5_c, .func (.func 35) #[] #[]] (.bool true) [some (.rd a0_5_o 4 [])], (fr1 0).x = (fr1 0).x, CallOK Try.prog 36 #[.slice a0_4_o 1 a0_4_c, .func (.func 37) #[] #[]] (.bool true) [some (.rd a0_4_o 5 [(kc23)])]]) (fun _ => by kernel_rfl) (fun _ => ⟨rfl, (by have h1 := w_pglog_rising_api_Item_string__2 F a0_5_o a0_5_c e28; exact h1.ok ⟨(.inl ⟨.rd a0_5_o 4 [], .head _, Cov.refl _⟩), trivial⟩), rfl, (by have h1 := w_pglog_rising_api_Last_int__2 F a0_4_o a0_4_c e30; exact h1.ok ⟨(.inl ⟨.rd a0_4_o 5 [(kc23)], .head _, Cov.refl _⟩), trivial⟩), trivial⟩) ?_
  intro _
  refine GS.cond (t := false) rfl rfl (fun hf => by cases hf) (fun _ => ?_)
  refine GS.skip ?_
  refine GS.seq ?_
  refine GS.seq ?_
  refine GS.rgM (fun _ => [(1, .pointer (some ⟨(fr1 0).x, 0, none⟩)), (3, .pointer (some ⟨(fr5 2).x, 0, none⟩)), (57, .slice a0_5_o 0 a0_5_c), (58, .int .i64 0), (59, .int .i64 0)]) [(1, { act := .load 4 0 0 [] })] [1, 3, 57, 58, 59] [1, 2, 3, 4, 5] (fun _ => [(fr1 0).x = (fr1 0).x]) (fun _ => by kernel_rfl) (fun _ => ⟨rfl, trivial⟩) ?_
  intro _
  refine GS.block ?_
  refine GS.loop ?_
  refine GS.seq ?_
  refine GS.rzM (fun _ => [(1, .pointer (some ⟨(fr1 0).x, 0, none⟩)), (3, .pointer (some ⟨(fr5 2).x, 0, none⟩)), (57, .slice a0_5_o 0 a0_5_c), (58, .int .i64 0), (59, .int .i64 0), (60, .bool false)]) [] [1, 3, 57, 58, 59, 60] [1, 2, 3, 4, 5] (fun _ => by kernel_rfl) ?_
  intro _
  refine GS.seq ?_
  refine GS.cond (t := false) rfl rfl (fun hf => by cases hf) (fun _ => ?_)
  refine GS.exit rfl ?_
  refine GS.seq ?_
  refine GS.seq ?_
  refine GS.rg (fun _ => [(3, .pointer (some ⟨(fr5 2).x, 0, none⟩)), (87, .slice a0_4_o 1 a0_4_c), (88, .int .i64 1), (89, .int .i64 0)]) (fun _ => [(2, .rd a0_4_o 5 [(kc23)]), (5, .cells ((fr5 2).x) 23 [.int .i64 1, .int .i64 2])]) [(1, { act := .load 4 0 0 [] })] [3, 87, 88, 89] [2, 5] (fun _ => [(fr1 0).x = (fr1 0).x]) (fun _ => by kernel_rfl) (fun _ => ⟨rfl, trivial⟩) ?_
  intro _
  refine GS.block ?_
  refine GS.loop ?_
  refine GS.seq ?_
  refine GS.rzM (fun _ => [(3, .pointer (some ⟨(fr5 2).x, 0, none⟩)), (87, .slice a0_4_o 1 a0_4_c), (88, .int .i64 1), (89, .int .i64 0), (90, .bool true)]) [] [3, 87, 88, 89, 90] [2, 5] (fun _ => by kernel_rfl) ?_
  intro _
  refine GS.seq ?_
  refine GS.cond (t := true) rfl rfl (fun _ => ?_) (fun hf => by cases hf)
  refine GS.skip ?_
  refine GS.seq ?_
  refine GS.block ?_
  refine GS.seq ?_
  refine GS.rg (fun fr35 => [(3, .pointer (some ⟨(fr5 2).x, 0, none⟩)), (9, .pointer (some ⟨(fr35 2).x, 0, none⟩)), (87, .slice a0_4_o 1 a0_4_c), (88, .int .i64 1), (89, .int .i64 0)]) (fun fr35 => [(2, .rd a0_4_o 5 [(kc23)]), (5, .cells ((fr5 2).x) 23 [.int .i64 1, .int .i64 2]), (8, .cells ((fr35 2).x) 47 (kc23))]) [(0, { act := .idx 2 0 }), (1, { act := .load 2 0 0 [.int .i64 3, .int .i64 2, .int .i64 0, .int .i64 1, .int .i64 2] }), (2, { act := .new .var, key := some 8 }), (3, { act := .store 0 0 [], key := some 8 })] [3, 9, 87, 88, 89] [2, 5, 8] (fun fr35 => [a0_4_o = a0_4_o, 1 = ([(kc23)] : List (List Value)).length, (0 : Int) = ((0 : Nat) : Int), 0 < 1, blk a0_4_o = blk a0_4_o, offs a0_4_o + 0 * 5 = offs a0_4_o + (0 * 5 + 0), ([(kc23)] : List (List Value))[0]? = some [.int .i64 3, .int .i64 2, .int .i64 0, .int .i64 1, .int .i64 2], (fr35 2).x = (fr35 2).x, ((.agg ((kc23)).toArray) : Value).cells.toList.all Value.oneCell' = true]) (fun fr35 => by kernel_rfl) (fun fr35 => ⟨rfl, rfl, rfl, (Nat.le_of_ble_eq_true rfl), rfl, rfl, rfl, rfl, rfl, trivial⟩) ?_
  intro fr35
  refine GS.seq ?_
  refine bnd_elim hm (fun y37 e38 hm => ?_)
  refine bnd_elim hm (fun y39 e40 hm => ?_)
  refine GS.rg (fun _ => [(3, .pointer (some ⟨(fr5 2).x, 0, none⟩)), (87, .slice a0_4_o 1 a0_4_c), (88, .int .i64 1), (89, .int .i64 0), (102, .bool false)]) (fun _ => [(2, .rd a0_4_o 5 [(kc23)]), (5, .cells ((fr5 2).x) 23 [.int .i64 1, .int .i64 2])]) [(1, { act := .load 8 0 0 [] }), (2, { act := .call [] (.bool false) }), (5, { act := .load 8 0 0 [] }), (6, { act := .load 5 0 0 [] }), (7, { act := .call [] (.int .i64 0) })] [3, 87, 88, 89, 102] [2, 5] (fun _ => [(fr35 2).x = (fr35 2).x, CallOK Try.prog 33 #[.agg #[.int .i64 1, .int .i64 2]] (.bool false) [], (fr35 2).x = (fr35 2).x, (fr5 2).x = (fr5 2).x, CallOK Try.prog 7 #[.agg #[.int .i64 1, .int .i64 2], .agg #[.int .i64 1, .int .i64 2]] (.int .i64 0) []]) (fun _ => by kernel_rfl) (fun _ => ⟨rfl, (by have h1 := w_pglog_below_4 F  e38; exact h1.ok trivial), rfl, rfl, (by have h1 := w_pglog_Cmp_4 F  e40; exact h1.ok trivial), trivial⟩) ?_
  intro _
  refine GS.cond (t := false) rfl rfl (fun hf => by cases hf) (fun _ => ?_)
  refine GS.skip ?_
  refine GS.inBlock ?_
  refine GS.rzM (fun _ => [(3, .pointer (some ⟨(fr5 2).x, 0, none⟩)), (87, .slice a0_4_o 1 a0_4_c), (88, .int .i64 1), (89, .int .i64 1)]) [] [3, 87, 88, 89] [2, 5] (fun _ => by kernel_rfl) ?_
  intro _
  refine GS.inLoop ?_
  refine GS.seq ?_
  refine GS.rzM (fun _ => [(3, .pointer (some ⟨(fr5 2).x, 0, none⟩)), (87, .slice a0_4_o 1 a0_4_c), (88, .int .i64 1), (89, .int .i64 1), (90, .bool false)]) [] [3, 87, 88, 89, 90] [2, 5] (fun _ => by kernel_rfl) ?_
  intro _
  refine GS.seq ?_
  refine GS.cond (t := false) rfl rfl (fun hf => by cases hf) (fun _ => ?_)
  refine GS.exit rfl ?_
  refine GS.seq ?_
  refine GS.rz (fun _ => [(2, .int .i64 0)]) (fun _ => []) [] [2] [] (fun _ => by kernel_rfl) ?_
  intro _
  have hy := Option.some.inj hm
  subst hy
  refine GS.ret (fn := Try.f21) [0] [.int .i64 0] [] rfl Try.func21 (by kernel_rfl) trivial (fun w' hs => ?_)
  exact ⟨(), rfl, hs.turnedG (ks := []) rfl rfl⟩

theorem w_tholelaw13_lives (F : Nat) {y : Unit} (hm : m_tholelaw13_lives F = some y) : CallG Try.prog 11 #[] (X := Unit) (fun (_ : Unit) => .bool true) [] [] (fun (_ : Unit) => []) := by
  intro w hg
  rw [m_tholelaw13_lives] at hm
  refine GS.start (S := mayT [] []) (mem := []) Try.func11 rfl Try.ntmps11 (Nat.le_of_ble_eq_true rfl) (hg.start rfl) ?_
  refine GS.conv (env' := []) rfl rfl ?_
  refine GS.seq ?_
  refine GS.rzM (fun _ => []) [] [] [] (fun _ => by kernel_rfl) ?_
  intro _
  refine GS.seq ?_
  refine bnd_elim hm (fun y3 e4 hm => ?_)
  refine GS.open_ ?_
  refine GR.rM (i := 0) 3 (env' := fun _ => [(8, .agg ((kc0)).toArray), (10, .agg ((kc12)).toArray)]) (by kernel_rfl) (RunsTo.mk [] [8, 10] [] (fun _ => []) (fun _ => by kernel_rfl) (fun _ => trivial)) ?_
  intro _
  refine GR.callG (X := Option Addr × Nat × Option Addr × Nat × Option Addr × Nat) (i := 3) (g := 28) (args := #[.agg ((kc0)).toArray, .agg ((kc12)).toArray, .int .u32 7]) (v := fun ⟨x5, x6, x7, x8, x9, x10⟩ => .tuple #[.agg ((kc20 x5 x6 x7 x8 x9 x10)).toArray, .int .i64 0]) (own := []) (ro := []) (es' := fun ⟨x5, x6, x7, x8, x9, x10⟩ => [.osl x5 x6 52 7 [(kc12)], .osl x7 x8 47 5 [(kc17)], .osl x9 x10 42 4 [(kc19)]]) (mem' := fun ⟨x5, x6, x7, x8, x9, x10⟩ => [(1, .osl x5 x6 52 7 [(kc12)]), (2, .osl x7 x8 47 5 [(kc17)]), (3, .osl x9 x10 42 4 [(kc19)])]) (env' := fun ⟨x5, x6, x7, x8, x9, x10⟩ => [(11, .tuple #[.agg ((kc20 x5 x6 x7 x8 x9 x10)).toArray, .int .i64 0])]) [] [1, 2, 3] [11] [1, 2, 3] false (by kernel_rfl) (by kernel_rfl) (by kernel_rfl) (by kernel_rfl) (by kernel_rfl) (fun _ => rfl) (fun _ _ => rfl) trivial (by rintro ⟨x5, x6, x7, x8, x9, x10⟩; kernel_rfl) (by rintro ⟨x5, x6, x7, x8, x9, x10⟩; kernel_rfl) ((by have h1 := w_pglog_Append_3 F  e4; exact h1)) ?_
  rintro ⟨x5, x6, x7, x8, x9, x10⟩
  refine GR.ru (i := 4) 6 (env' := fun fr11 => [(1, .pointer (some ⟨(fr11 7).x, 0, none⟩)), (2, .int .i64 0)]) (mem' := fun fr11 => [(1, .osl x5 x6 52 7 [(kc12)]), (2, .osl x7 x8 47 5 [(kc17)]), (3, .osl x9 x10 42 4 [(kc19)]), (4, .cells ((fr11 7).x) 28 (kc20 x5 x6 x7 x8 x9 x10))]) (by kernel_rfl) (RunsTo.mk [(7, { act := .new .var, key := some 4 }), (8, { act := .store 0 0 [], key := some 4 })] [1, 2] [1, 2, 3, 4] (fun fr11 => [(fr11 7).x = (fr11 7).x, ((.agg ((kc20 x5 x6 x7 x8 x9 x10)).toArray) : Value).cells.toList.all Value.oneCell' = true]) (fun fr11 => by kernel_rfl) (fun fr11 => ⟨rfl, rfl, trivial⟩)) ?_
  intro fr11
  refine GR.dn (by kernel_rfl) ?_
  refine GS.seq ?_
  refine bnd_elim hm (fun y13 e14 hm => ?_)
  refine GS.open_ ?_
  refine GR.rM (i := 0) 3 (env' := fun _ => [(1, .pointer (some ⟨(fr11 7).x, 0, none⟩)), (2, .int .i64 0), (15, .agg ((kc20 x5 x6 x7 x8 x9 x10)).toArray), (17, .agg ((kc21)).toArray)]) (by kernel_rfl) (RunsTo.mk [(0, { act := .load 4 0 0 [] })] [1, 2, 15, 17] [1, 2, 3, 4] (fun _ => [(fr11 7).x = (fr11 7).x]) (fun _ => by kernel_rfl) (fun _ => ⟨rfl, trivial⟩)) ?_
  intro _
  refine GR.callG (X := Option Addr × Nat × Option Addr × Nat × Option Addr × Nat) (i := 3) (g := 28) (args := #[.agg ((kc20 x5 x6 x7 x8 x9 x10)).toArray, .agg ((kc21)).toArray, .int .u32 0]) (v := fun ⟨x15, x16, x17, x18, x19, x20⟩ => .tuple #[.agg ((kc25 x15 x16 x17 x18 x19 x20)).toArray, .int .i64 0]) (own := []) (ro := [.rd x5 7 [(kc12)], .rd x7 5 [(kc17)], .rd x9 4 [(kc19)]]) (es' := fun ⟨x15, x16, x17, x18, x19, x20⟩ => [.osl x15 x16 52 7 [(kc12), (kc21)], .osl x17 x18 47 5 [(kc23)], .osl x19 x20 42 4 []]) (mem' := fun ⟨x15, x16, x17, x18, x19, x20⟩ => [(1, .osl x5 x6 52 7 [(kc12)]), (2, .osl x7 x8 47 5 [(kc17)]), (3, .osl x9 x10 42 4 [(kc19)]), (4, .cells ((fr11 7).x) 28 (kc20 x5 x6 x7 x8 x9 x10)), (5, .osl x15 x16 52 7 [(kc12), (kc21)]), (6, .osl x17 x18 47 5 [(kc23)]), (7, .osl x19 x20 42 4 [])]) (env' := fun ⟨x15, x16, x17, x18, x19, x20⟩ => [(1, .pointer (some ⟨(fr11 7).x, 0, none⟩)), (2, .int .i64 0), (18, .tuple #[.agg ((kc25 x15 x16 x17 x18 x19 x20)).toArray, .int .i64 0])]) [] [5, 6, 7] [1, 2, 18] [1, 2, 3, 4, 5, 6, 7] false (by kernel_rfl) (by kernel_rfl) (by kernel_rfl) (by kernel_rfl) (by kernel_rfl) (fun _ => rfl) (fun _ _ => rfl) ⟨(.inl ⟨1, _, rfl, rfl, Cov.osl_rd, fun h => by cases h⟩), (.inl ⟨2, _, rfl, rfl, Cov.osl_rd, fun h => by cases h⟩), (.inl ⟨3, _, rfl, rfl, Cov.osl_rd, fun h => by cases h⟩), trivial⟩ (by rintro ⟨x15, x16, x17, x18, x19, x20⟩; kernel_rfl) (by rintro ⟨x15, x16, x17, x18, x19, x20⟩; kernel_rfl) ((by have h1 := w_pglog_Append_4 F x5 x6 x7 x8 x9 x10 e14; exact h1)) ?_
  rintro ⟨x15, x16, x17, x18, x19, x20⟩
  refine GR.ru (i := 4) 6 (env' := fun fr21 => [(1, .pointer (some ⟨(fr11 7).x, 0, none⟩)), (2, .int .i64 0), (3, .pointer (some ⟨(fr21 7).x, 0, none⟩)), (4, .int .i64 0)]) (mem' := fun fr21 => [(1, .osl x5 x6 52 7 [(kc12)]), (2, .osl x7 x8 47 5 [(kc17)]), (3, .osl x9 x10 42 4 [(kc19)]), (4, .cells ((fr11 7).x) 28 (kc20 x5 x6 x7 x8 x9 x10)), (5, .osl x15 x16 52 7 [(kc12), (kc21)]), (6, .osl x17 x18 47 5 [(kc23)]), (7, .osl x19 x20 42 4 []), (8, .cells ((fr21 7).x) 28 (kc25 x15 x16 x17 x18 x19 x20))]) (by kernel_rfl) (RunsTo.mk [(7, { act := .new .var, key := some 8 }), (8, { act := .store 0 0 [], key := some 8 })] [1, 2, 3, 4] [1, 2, 3, 4, 5, 6, 7, 8] (fun fr21 => [(fr21 7).x = (fr21 7).x, ((.agg ((kc25 x15 x16 x17 x18 x19 x20)).toArray) : Value).cells.toList.all Value.oneCell' = true]) (fun fr21 => by kernel_rfl) (fun fr21 => ⟨rfl, rfl, trivial⟩)) ?_
  intro fr21
  refine GR.dn (by kernel_rfl) ?_
  refine GS.seq ?_
  refine bnd_elim hm (fun y23 e24 hm => ?_)
  refine GS.rgM (fun fr22 => [(1, .pointer (some ⟨(fr11 7).x, 0, none⟩)), (2, .int .i64 0), (3, .pointer (some ⟨(fr21 7).x, 0, none⟩)), (4, .int .i64 0), (6, .int .i64 1)]) [(0, { act := .load 8 0 0 [] }), (1, { act := .call [5, 6, 7] (.tuple #[.agg ((kc23)).toArray, .int .i64 1]) }), (5, { act := .new .var, key := some 9 }), (6, { act := .store 0 0 [], key := some 9 })] [1, 2, 3, 4, 6] [1, 2, 3, 4, 5, 6, 7, 8] (fun fr22 => [(fr21 7).x = (fr21 7).x, CallOK Try.prog 17 #[.agg ((kc25 x15 x16 x17 x18 x19 x20)).toArray, .int .i64 3, .int .i64 2] (.tuple #[.agg ((kc23)).toArray, .int .i64 1]) [some (.osl x15 x16 52 7 [(kc12), (kc21)]), some (.osl x17 x18 47 5 [(kc23)]), some (.osl x19 x20 42 4 [])], (fr22 5).x = (fr22 5).x, ((.agg ((kc23)).toArray) : Value).cells.toList.all Value.oneCell' = true]) (fun fr22 => by kernel_rfl) (fun fr22 => ⟨rfl, (by have h1 := w_pglog_Seen_2 F x15 x16 x17 x18 x19 x20 e24; exact h1.ok ⟨(.inl ⟨.osl x15 x16 52 7 [(kc12), (kc21)], .head _, Cov.osl_rd⟩), (.inl ⟨.osl x17 x18 47 5 [(kc23)], (.tail _ (.head _)), Cov.osl_rd⟩), (.inl ⟨.osl x19 x20 42 4 [], (.tail _ (.tail _ (.head _))), Cov.osl_rd⟩), trivial⟩), rfl, rfl, trivial⟩) ?_
  intro fr22
  refine GS.seq ?_
  refine bnd_elim hm (fun y26 e27 hm => ?_)
  refine bnd_elim hm (fun y28 e29 hm => ?_)
  refine GS.rg (fun _ => [(0, .bool true)]) (fun _ => []) [(8, { act := .load 4 0 0 [] }), (14, { act := .load 8 0 0 [] }), (19, { act := .load 8 0 0 [] }), (20, { act := .call [5, 6, 7] (.agg #[.int .i64 1, .int .i64 2]) }), (22, { act := .eq, sp := some (.bool true) }), (29, { act := .load 8 0 0 [] }), (30, { act := .call [5, 6, 7] (.int .i64 0) })] [0] [] (fun _ => [(fr11 7).x = (fr11 7).x, (fr21 7).x = (fr21 7).x, (fr21 7).x = (fr21 7).x, CallOK Try.prog 23 #[.agg ((kc25 x15 x16 x17 x18 x19 x20)).toArray] (.agg #[.int .i64 1, .int .i64 2]) [some (.osl x15 x16 52 7 [(kc12), (kc21)]), some (.osl x17 x18 47 5 [(kc23)]), some (.osl x19 x20 42 4 [])], ((.bool (S_api_Version.beq (S_api_Version.mk 1 2) (S_api_Version.mk 1 2))) : Value) = .bool true, (fr21 7).x = (fr21 7).x, CallOK Try.prog 21 #[.agg ((kc25 x15 x16 x17 x18 x19 x20)).toArray] (.int .i64 0) [some (.osl x15 x16 52 7 [(kc12), (kc21)]), some (.osl x17 x18 47 5 [(kc23)]), some (.osl x19 x20 42 4 [])]]) (fun _ => by kernel_rfl) (fun _ => ⟨rfl, rfl, rfl, (by have h1 := w_pglog_Head_5 F x15 x16 x17 x18 x19 x20 e27; exact h1.ok ⟨(.inl ⟨.osl x15 x16 52 7 [(kc12), (kc21)], .head _, Cov.osl_rd⟩), (.inl ⟨.osl x17 x18 47 5 [(kc23)], (.tail _ (.head _)), Cov.osl_rd⟩), (.inl ⟨.osl x19 x20 42 4 [], (.tail _ (.tail _ (.head _))), Cov.osl_rd⟩), trivial⟩), (by kernel_rfl), rfl, (by have h1 := w_pglog_Check_2 F x15 x16 x17 x18 x19 x20 e29; exact h1.ok ⟨(.inl ⟨.osl x15 x16 52 7 [(kc12), (kc21)], .head _, Cov.osl_rd⟩), (.inl ⟨.osl x17 x18 47 5 [(kc23)], (.tail _ (.head _)), Cov.osl_rd⟩), (.inl ⟨.osl x19 x20 42 4 [], (.tail _ (.tail _ (.head _))), Cov.osl_rd⟩), trivial⟩), trivial⟩) ?_
  intro _
  have hy := Option.some.inj hm
  subst hy
  refine GS.ret (fn := Try.f11) [0] [.bool true] [] rfl Try.func11 (by kernel_rfl) trivial (fun w' hs => ?_)
  exact ⟨(), rfl, hs.turnedG (ks := []) rfl rfl⟩

end Go.Proofs.Ytmoaiokgbjkaaaa
