/-
  CHAPTER 13g: the functions do what their models say (4).
-/
import Derived.Test.YtmoaiokgbjkaaaaM13g
import Derived.Test.YtmoaiokgbjkaaaaW13ga
import Derived.Test.YtmoaiokgbjkaaaaW13gb
set_option linter.unusedVariables false
set_option linter.unusedSimpArgs false
set_option maxRecDepth 100000
set_option maxHeartbeats 8000000
namespace Go.Proofs.Ytmoaiokgbjkaaaa
open Go Go.RowKit Sx

theorem w_pglog_Trim (F : Nat) (a0_Les : Int) (a0_Tail : S_api_Version) (a0_Log_o : Option Addr) (a0_Log_c : Nat) (a0_Log : List S_api_Entry) (a0_Lasts_o : Option Addr) (a0_Lasts_c : Nat) (a0_Lasts : List S_api_Last) (a0_Items_o : Option Addr) (a0_Items_c : Nat) (a0_Items : List S_api_Item) (a1 : Int) {y : Int × S_api_Version × List S_api_Entry × List S_api_Last × List S_api_Item} (hm : m_pglog_Trim F a0_Les a0_Tail a0_Log a0_Lasts a0_Items a1 = some y) : CallG Try.prog 27 #[.agg ((kc9 a0_Les a0_Tail.Epoch a0_Tail.N a0_Log_o a0_Log.length a0_Log_c a0_Lasts_o a0_Lasts.length a0_Lasts_c a0_Items_o a0_Items.length a0_Items_c)).toArray, .int .i64 a1] (X := Option Addr × Nat × Option Addr × Nat × Option Addr × Nat) (fun ⟨x0, x1, x2, x3, x4, x5⟩ => .agg ((kc9 y.1 y.2.1.Epoch y.2.1.N x0 y.2.2.1.length x1 x2 y.2.2.2.1.length x3 x4 y.2.2.2.2.length x5)).toArray) [] [r52 a0_Log_o a0_Log, r47 a0_Lasts_o a0_Lasts, r42 a0_Items_o a0_Items] (fun ⟨x0, x1, x2, x3, x4, x5⟩ => [o52 x0 x1 y.2.2.1, o47 x2 x3 y.2.2.2.1, o42 x4 x5 y.2.2.2.2]) := by
  intro w hg
  rw [m_pglog_Trim] at hm
  refine GS.start (S := mayT [] [r52 a0_Log_o a0_Log, r47 a0_Lasts_o a0_Lasts, r42 a0_Items_o a0_Items]) (mem := [(1, r52 a0_Log_o a0_Log), (2, r47 a0_Lasts_o a0_Lasts), (3, r42 a0_Items_o a0_Items)]) Try.func27 rfl Try.ntmps27 (Nat.le_of_ble_eq_true rfl) (hg.start rfl) ?_
  refine GS.conv (env' := [(0, .agg ((kc9 a0_Les a0_Tail.Epoch a0_Tail.N a0_Log_o a0_Log.length a0_Log_c a0_Lasts_o a0_Lasts.length a0_Lasts_c a0_Items_o a0_Items.length a0_Items_c)).toArray), (1, .int .i64 a1)]) rfl rfl ?_
  refine GS.seq ?_
  refine GS.rz (fun fr1 => [(1, .int .i64 a1), (2, .pointer (some ⟨(fr1 0).x, 0, none⟩)), (4, .pointer (some ⟨(fr1 1).x, 0, none⟩))]) (fun fr1 => [(1, r52 a0_Log_o a0_Log), (2, r47 a0_Lasts_o a0_Lasts), (3, r42 a0_Items_o a0_Items), (4, .cells ((fr1 0).x) 28 (kc9 a0_Les a0_Tail.Epoch a0_Tail.N a0_Log_o a0_Log.length a0_Log_c a0_Lasts_o a0_Lasts.length a0_Lasts_c a0_Items_o a0_Items.length a0_Items_c)), (5, .cells ((fr1 1).x) 28 (kc0))]) [(0, { act := .new .var, key := some 4 }), (1, { act := .new .var, key := some 5 })] [1, 2, 4] [1, 2, 3, 4, 5] (fun fr1 => by kernel_rfl) ?_
  intro fr1
  refine GS.seq ?_
  refine bnd_elim hm (fun y3 e4 hm => ?_)
  refine GS.open_ ?_
  refine GR.rM (i := 0) 1 (env' := fun _ => [(1, .int .i64 a1), (2, .pointer (some ⟨(fr1 0).x, 0, none⟩)), (4, .pointer (some ⟨(fr1 1).x, 0, none⟩)), (6, .agg ((kc9 a0_Les a0_Tail.Epoch a0_Tail.N a0_Log_o a0_Log.length a0_Log_c a0_Lasts_o a0_Lasts.length a0_Lasts_c a0_Items_o a0_Items.length a0_Items_c)).toArray)]) (by kernel_rfl) (RunsTo.mk [(0, { act := .load 4 0 0 [] })] [1, 2, 4, 6] [1, 2, 3, 4, 5] (fun _ => [(fr1 0).x = (fr1 0).x]) (fun _ => by kernel_rfl) (fun _ => ⟨rfl, trivial⟩)) ?_
  intro _
  refine GR.callG (X := Option Addr × Nat × Option Addr × Nat × Option Addr × Nat) (i := 1) (g := 20) (ro := [r52 a0_Log_o a0_Log, r47 a0_Lasts_o a0_Lasts, r42 a0_Items_o a0_Items]) (mem' := fun ⟨x5, x6, x7, x8, x9, x10⟩ => [(1, r52 a0_Log_o a0_Log), (2, r47 a0_Lasts_o a0_Lasts), (3, r42 a0_Items_o a0_Items), (4, .cells ((fr1 0).x) 28 (kc9 a0_Les a0_Tail.Epoch a0_Tail.N a0_Log_o a0_Log.length a0_Log_c a0_Lasts_o a0_Lasts.length a0_Lasts_c a0_Items_o a0_Items.length a0_Items_c)), (5, .cells ((fr1 1).x) 28 (kc0)), (6, o52 x5 x6 y3.2.2.1), (7, o47 x7 x8 y3.2.2.2.1), (8, o42 x9 x10 y3.2.2.2.2)]) (env' := fun ⟨x5, x6, x7, x8, x9, x10⟩ => [(1, .int .i64 a1), (2, .pointer (some ⟨(fr1 0).x, 0, none⟩)), (4, .pointer (some ⟨(fr1 1).x, 0, none⟩)), (7, .agg ((kc9 y3.1 y3.2.1.Epoch y3.2.1.N x5 y3.2.2.1.length x6 x7 y3.2.2.2.1.length x8 x9 y3.2.2.2.2.length x10)).toArray)]) [] [6, 7, 8] [1, 2, 4, 7] [1, 2, 3, 4, 5, 6, 7, 8] false (by kernel_rfl) (by kernel_rfl) (by kernel_rfl) (by kernel_rfl) (by kernel_rfl) (fun _ => rfl) (fun _ _ => rfl) ⟨(.inl ⟨1, _, rfl, rfl, Cov.refl _, fun h => by cases h⟩), (.inl ⟨2, _, rfl, rfl, Cov.refl _, fun h => by cases h⟩), (.inl ⟨3, _, rfl, rfl, Cov.refl _, fun h => by cases h⟩), trivial⟩ (by rintro ⟨x5, x6, x7, x8, x9, x10⟩; kernel_rfl) (by rintro ⟨x5, x6, x7, x8, x9, x10⟩; kernel_rfl) (w_pglog_Copy_2 F a0_Les a0_Tail a0_Log_o a0_Log_c a0_Log a0_Lasts_o a0_Lasts_c a0_Lasts a0_Items_o a0_Items_c a0_Items e4) ?_
  rintro ⟨x5, x6, x7, x8, x9, x10⟩
  refine GR.ru (i := 2) 1 (env' := fun _ => [(1, .int .i64 a1), (2, .pointer (some ⟨(fr1 0).x, 0, none⟩)), (4, .pointer (some ⟨(fr1 1).x, 0, none⟩))]) (mem' := fun _ => [(4, .cells ((fr1 0).x) 28 (kc9 y3.1 y3.2.1.Epoch y3.2.1.N x5 y3.2.2.1.length x6 x7 y3.2.2.2.1.length x8 x9 y3.2.2.2.2.length x10)), (5, .cells ((fr1 1).x) 28 (kc0)), (6, o52 x5 x6 y3.2.2.1), (7, o47 x7 x8 y3.2.2.2.1), (8, o42 x9 x10 y3.2.2.2.2)]) (by kernel_rfl) (RunsTo.mk [(2, { act := .store 0 0 [], key := some 4 })] [1, 2, 4] [4, 5, 6, 7, 8] (fun _ => [(fr1 0).x = (fr1 0).x, ((.agg ((kc9 y3.1 y3.2.1.Epoch y3.2.1.N x5 y3.2.2.1.length x6 x7 y3.2.2.2.1.length x8 x9 y3.2.2.2.2.length x10)).toArray) : Value).cells.toList.all Value.oneCell' = true]) (fun _ => by kernel_rfl) (fun _ => ⟨rfl, rfl, trivial⟩)) ?_
  intro _
  refine GR.dn (by kernel_rfl) ?_
  refine GS.seq ?_
  refine GS.seq ?_
  refine grd_elim hm (fun g13 hm => ?_)
  refine GS.rgM (fun _ => [(2, .pointer (some ⟨(fr1 0).x, 0, none⟩)), (4, .pointer (some ⟨(fr1 1).x, 0, none⟩)), (5, .int .i64 (((y3.2.2.1.length : Nat) : Int) - (if 0 > a1 then 0 else a1)))]) [(1, { act := .load 4 0 0 [] }), (5, { sp := some (.int .i64 (((y3.2.2.1.length : Nat) : Int) - (if 0 > a1 then 0 else a1))) })] [2, 4, 5] [4, 5, 6, 7, 8] (fun _ => [(fr1 0).x = (fr1 0).x, ((.int .i64 (IntKind.i64.wrap (((y3.2.2.1.length : Nat) : Int) - (if 0 > a1 then 0 else a1)))) : Value) = .int .i64 (((y3.2.2.1.length : Nat) : Int) - (if 0 > a1 then 0 else a1))]) (fun _ => by kernel_rfl) (fun _ => ⟨rfl, I64.w g13, trivial⟩) ?_
  intro _
  refine GS.seq ?_
  refine GS.rzM (fun _ => [(2, .pointer (some ⟨(fr1 0).x, 0, none⟩)), (4, .pointer (some ⟨(fr1 1).x, 0, none⟩)), (5, .int .i64 (((y3.2.2.1.length : Nat) : Int) - (if 0 > a1 then 0 else a1))), (15, .bool (decide ((((y3.2.2.1.length : Nat) : Int) - (if 0 > a1 then 0 else a1)) > 0)))]) [] [2, 4, 5, 15] [4, 5, 6, 7, 8] (fun _ => by kernel_rfl) ?_
  intro _
  refine GS.cond (t := decide ((((y3.2.2.1.length : Nat) : Int) - (if 0 > a1 then 0 else a1)) > 0)) rfl rfl (fun h15 => ?_) (fun h15 => ?_)
  · replace hm := br_t h15 hm
    refine GS.seq ?_
    refine grd_elim hm (fun g17 hm => ?_)
    refine grd_elim hm (fun g18 hm => ?_)
    refine GS.rg (fun _ => [(2, .pointer (some ⟨(fr1 0).x, 0, none⟩)), (4, .pointer (some ⟨(fr1 1).x, 0, none⟩)), (5, .int .i64 (((y3.2.2.1.length : Nat) : Int) - (if 0 > a1 then 0 else a1)))]) (fun _ => [(4, .cells ((fr1 0).x) 28 (kc9 y3.1 (((y3.2.2.1.getD (Int.toNat ((((y3.2.2.1.length : Nat) : Int) - (if 0 > a1 then 0 else a1)) - 1)) dS_api_Entry).Version).Epoch) (((y3.2.2.1.getD (Int.toNat ((((y3.2.2.1.length : Nat) : Int) - (if 0 > a1 then 0 else a1)) - 1)) dS_api_Entry).Version).N) x5 y3.2.2.1.length x6 x7 y3.2.2.2.1.length x8 x9 y3.2.2.2.2.length x10)), (5, .cells ((fr1 1).x) 28 (kc0)), (6, o52 x5 x6 y3.2.2.1), (7, o47 x7 x8 y3.2.2.2.1), (8, o42 x9 x10 y3.2.2.2.2)]) [(1, { act := .load 4 0 0 [] }), (3, { sp := some (.int .i64 ((((y3.2.2.1.length : Nat) : Int) - (if 0 > a1 then 0 else a1)) - 1)) }), (4, { act := .idx 6 (Int.toNat ((((y3.2.2.1.length : Nat) : Int) - (if 0 > a1 then 0 else a1)) - 1)) }), (6, { act := .load 6 (Int.toNat ((((y3.2.2.1.length : Nat) : Int) - (if 0 > a1 then 0 else a1)) - 1)) 0 [.int .i64 (((y3.2.2.1.getD (Int.toNat ((((y3.2.2.1.length : Nat) : Int) - (if 0 > a1 then 0 else a1)) - 1)) dS_api_Entry).Version).Epoch), .int .i64 (((y3.2.2.1.getD (Int.toNat ((((y3.2.2.1.length : Nat) : Int) - (if 0 > a1 then 0 else a1)) - 1)) dS_api_Entry).Version).N), .bool ((y3.2.2.1.getD (Int.toNat ((((y3.2.2.1.length : Nat) : Int) - (if 0 > a1 then 0 else a1)) - 1)) dS_api_Entry).Remove), .int .i64 ((y3.2.2.1.getD (Int.toNat ((((y3.2.2.1.length : Nat) : Int) - (if 0 > a1 then 0 else a1)) - 1)) dS_api_Entry).Errno), .string ((y3.2.2.1.getD (Int.toNat ((((y3.2.2.1.length : Nat) : Int) - (if 0 > a1 then 0 else a1)) - 1)) dS_api_Entry).Name), .int .i64 ((y3.2.2.1.getD (Int.toNat ((((y3.2.2.1.length : Nat) : Int) - (if 0 > a1 then 0 else a1)) - 1)) dS_api_Entry).Client), .int .i64 ((y3.2.2.1.getD (Int.toNat ((((y3.2.2.1.length : Nat) : Int) - (if 0 > a1 then 0 else a1)) - 1)) dS_api_Entry).Number)] }), (8, { act := .store 0 0 [], key := some 4 })] [2, 4, 5] [4, 5, 6, 7, 8] (fun _ => [(fr1 0).x = (fr1 0).x, ((.int .i64 (IntKind.i64.wrap ((((y3.2.2.1.length : Nat) : Int) - (if 0 > a1 then 0 else a1)) - 1))) : Value) = .int .i64 ((((y3.2.2.1.length : Nat) : Int) - (if 0 > a1 then 0 else a1)) - 1), x5 = x5, y3.2.2.1.length = (List.map S_api_Entry.row y3.2.2.1).length, (((((y3.2.2.1.length : Nat) : Int) - (if 0 > a1 then 0 else a1)) - 1) : Int) = (((Int.toNat ((((y3.2.2.1.length : Nat) : Int) - (if 0 > a1 then 0 else a1)) - 1)) : Nat) : Int), (Int.toNat ((((y3.2.2.1.length : Nat) : Int) - (if 0 > a1 then 0 else a1)) - 1)) < y3.2.2.1.length, blk x5 = blk x5, offs x5 + (Int.toNat ((((y3.2.2.1.length : Nat) : Int) - (if 0 > a1 then 0 else a1)) - 1)) * 7 = offs x5 + ((Int.toNat ((((y3.2.2.1.length : Nat) : Int) - (if 0 > a1 then 0 else a1)) - 1)) * 7 + 0), (List.map S_api_Entry.row y3.2.2.1)[(Int.toNat ((((y3.2.2.1.length : Nat) : Int) - (if 0 > a1 then 0 else a1)) - 1))]? = some [.int .i64 (((y3.2.2.1.getD (Int.toNat ((((y3.2.2.1.length : Nat) : Int) - (if 0 > a1 then 0 else a1)) - 1)) dS_api_Entry).Version).Epoch), .int .i64 (((y3.2.2.1.getD (Int.toNat ((((y3.2.2.1.length : Nat) : Int) - (if 0 > a1 then 0 else a1)) - 1)) dS_api_Entry).Version).N), .bool ((y3.2.2.1.getD (Int.toNat ((((y3.2.2.1.length : Nat) : Int) - (if 0 > a1 then 0 else a1)) - 1)) dS_api_Entry).Remove), .int .i64 ((y3.2.2.1.getD (Int.toNat ((((y3.2.2.1.length : Nat) : Int) - (if 0 > a1 then 0 else a1)) - 1)) dS_api_Entry).Errno), .string ((y3.2.2.1.getD (Int.toNat ((((y3.2.2.1.length : Nat) : Int) - (if 0 > a1 then 0 else a1)) - 1)) dS_api_Entry).Name), .int .i64 ((y3.2.2.1.getD (Int.toNat ((((y3.2.2.1.length : Nat) : Int) - (if 0 > a1 then 0 else a1)) - 1)) dS_api_Entry).Client), .int .i64 ((y3.2.2.1.getD (Int.toNat ((((y3.2.2.1.length : Nat) : Int) - (if 0 > a1 then 0 else a1)) - 1)) dS_api_Entry).Number)], (fr1 0).x = (fr1 0).x, ((.agg #[.int .i64 (((y3.2.2.1.getD (Int.toNat ((((y3.2.2.1.length : Nat) : Int) - (if 0 > a1 then 0 else a1)) - 1)) dS_api_Entry).Version).Epoch), .int .i64 (((y3.2.2.1.getD (Int.toNat ((((y3.2.2.1.length : Nat) : Int) - (if 0 > a1 then 0 else a1)) - 1)) dS_api_Entry).Version).N)]) : Value).cells.toList.all Value.oneCell' = true]) (fun _ => by kernel_rfl) (fun _ => ⟨rfl, I64.w g17, rfl, mlen S_api_Entry.row y3.2.2.1, g18.eq, g18.2, rfl, rfl, map_at S_api_Entry.row dS_api_Entry g18.2, rfl, rfl, trivial⟩) ?_
    intro _
    refine grd_elim hm (fun g20 hm => ?_)
    refine GS.know (p := y3.2.2.1.length ≤ x6) (fun w hw => by first | (have h := (hw.ok 6 _ rfl).1.1; rw [List.length_map] at h; exact h) | simpa using (hw.ok 6 _ rfl).1.1) (fun k21 => ?_)
    refine GS.open_ ?_
    refine GR.rM (i := 0) 4 (env' := fun _ => [(2, .pointer (some ⟨(fr1 0).x, 0, none⟩)), (4, .pointer (some ⟨(fr1 1).x, 0, none⟩)), (27, .slice (cutOb x5 (Int.toNat (((y3.2.2.1.length : Nat) : Int) - (if 0 > a1 then 0 else a1))) x6 7) (((y3.2.2.1.drop (Int.toNat (((y3.2.2.1.length : Nat) : Int) - (if 0 > a1 then 0 else a1)))).take (y3.2.2.1.length - (Int.toNat (((y3.2.2.1.length : Nat) : Int) - (if 0 > a1 then 0 else a1))))).length) (x6 - (Int.toNat (((y3.2.2.1.length : Nat) : Int) - (if 0 > a1 then 0 else a1)))))]) (by kernel_rfl) (RunsTo.mk [(1, { act := .load 4 0 0 [] }), (3, { act := .cut (Int.toNat (((y3.2.2.1.length : Nat) : Int) - (if 0 > a1 then 0 else a1))) y3.2.2.1.length x6, sp := some (.slice (cutOb x5 (Int.toNat (((y3.2.2.1.length : Nat) : Int) - (if 0 > a1 then 0 else a1))) x6 7) (((y3.2.2.1.drop (Int.toNat (((y3.2.2.1.length : Nat) : Int) - (if 0 > a1 then 0 else a1)))).take (y3.2.2.1.length - (Int.toNat (((y3.2.2.1.length : Nat) : Int) - (if 0 > a1 then 0 else a1))))).length) (x6 - (Int.toNat (((y3.2.2.1.length : Nat) : Int) - (if 0 > a1 then 0 else a1))))) })] [2, 4, 27] [4, 5, 6, 7, 8] (fun _ => [(fr1 0).x = (fr1 0).x, (((y3.2.2.1.length : Nat) : Int) - (if 0 > a1 then 0 else a1)) = (((Int.toNat (((y3.2.2.1.length : Nat) : Int) - (if 0 > a1 then 0 else a1))) : Nat) : Int), y3.2.2.1.length = y3.2.2.1.length, x6 = x6, (Int.toNat (((y3.2.2.1.length : Nat) : Int) - (if 0 > a1 then 0 else a1))) ≤ y3.2.2.1.length, y3.2.2.1.length ≤ x6, x6 ≤ x6, (none : Option Operand) = none → (none : Option Operand) = none, ((.slice (if x6 = (Int.toNat (((y3.2.2.1.length : Nat) : Int) - (if 0 > a1 then 0 else a1))) then x5 else (x5).map (fun a => a.add ((Int.toNat (((y3.2.2.1.length : Nat) : Int) - (if 0 > a1 then 0 else a1))) * 7))) (y3.2.2.1.length - (Int.toNat (((y3.2.2.1.length : Nat) : Int) - (if 0 > a1 then 0 else a1)))) (x6 - (Int.toNat (((y3.2.2.1.length : Nat) : Int) - (if 0 > a1 then 0 else a1))))) : Value) = .slice (cutOb x5 (Int.toNat (((y3.2.2.1.length : Nat) : Int) - (if 0 > a1 then 0 else a1))) x6 7) (((y3.2.2.1.drop (Int.toNat (((y3.2.2.1.length : Nat) : Int) - (if 0 > a1 then 0 else a1)))).take (y3.2.2.1.length - (Int.toNat (((y3.2.2.1.length : Nat) : Int) - (if 0 > a1 then 0 else a1))))).length) (x6 - (Int.toNat (((y3.2.2.1.length : Nat) : Int) - (if 0 > a1 then 0 else a1))))]) (fun _ => by kernel_rfl) (fun _ => ⟨rfl, g20.eq, rfl, rfl, g20.2, (Nat.le_trans (Nat.le_refl _) k21), (Nat.le_refl _), (by intro h; first | rfl | cases h), slen (by simp only [List.length_take, List.length_drop]; have h1 : y3.2.2.1.length ≤ y3.2.2.1.length := (Nat.le_refl _); have h2 : (Int.toNat (((y3.2.2.1.length : Nat) : Int) - (if 0 > a1 then 0 else a1))) ≤ y3.2.2.1.length := g20.2; omega), trivial⟩)) ?_
    intro _
    refine GR.setMem (mem' := [(4, .cells ((fr1 0).x) 28 (kc9 y3.1 (((y3.2.2.1.getD (Int.toNat ((((y3.2.2.1.length : Nat) : Int) - (if 0 > a1 then 0 else a1)) - 1)) dS_api_Entry).Version).Epoch) (((y3.2.2.1.getD (Int.toNat ((((y3.2.2.1.length : Nat) : Int) - (if 0 > a1 then 0 else a1)) - 1)) dS_api_Entry).Version).N) x5 y3.2.2.1.length x6 x7 y3.2.2.2.1.length x8 x9 y3.2.2.2.2.length x10)), (5, .cells ((fr1 1).x) 28 (kc0)), (6, r52 x5 y3.2.2.1), (7, o47 x7 x8 y3.2.2.2.1), (8, o42 x9 x10 y3.2.2.2.2)]) (fun w hw => hw.downAt (k := 6) rfl Cov.osl_rd rfl rfl) ?_
    refine GR.setMem (mem' := [(4, .cells ((fr1 0).x) 28 (kc9 y3.1 (((y3.2.2.1.getD (Int.toNat ((((y3.2.2.1.length : Nat) : Int) - (if 0 > a1 then 0 else a1)) - 1)) dS_api_Entry).Version).Epoch) (((y3.2.2.1.getD (Int.toNat ((((y3.2.2.1.length : Nat) : Int) - (if 0 > a1 then 0 else a1)) - 1)) dS_api_Entry).Version).N) x5 y3.2.2.1.length x6 x7 y3.2.2.2.1.length x8 x9 y3.2.2.2.2.length x10)), (5, .cells ((fr1 1).x) 28 (kc0)), (6, r52 x5 y3.2.2.1), (7, o47 x7 x8 y3.2.2.2.1), (8, o42 x9 x10 y3.2.2.2.2), (9, .rd (cutOb x5 (Int.toNat (((y3.2.2.1.length : Nat) : Int) - (if 0 > a1 then 0 else a1))) x6 7) 7 (((List.map S_api_Entry.row y3.2.2.1).drop (Int.toNat (((y3.2.2.1.length : Nat) : Int) - (if 0 > a1 then 0 else a1)))).take (y3.2.2.1.length - (Int.toNat (((y3.2.2.1.length : Nat) : Int) - (if 0 > a1 then 0 else a1))))))]) (fun w hw => Sat.addCov (k0 := 6) hw rfl rfl rfl (rd_cut g20.2 (Nat.le_trans (Nat.le_refl _) k21)) rfl) ?_
    refine GR.conv (mem' := [(4, .cells ((fr1 0).x) 28 (kc9 y3.1 (((y3.2.2.1.getD (Int.toNat ((((y3.2.2.1.length : Nat) : Int) - (if 0 > a1 then 0 else a1)) - 1)) dS_api_Entry).Version).Epoch) (((y3.2.2.1.getD (Int.toNat ((((y3.2.2.1.length : Nat) : Int) - (if 0 > a1 then 0 else a1)) - 1)) dS_api_Entry).Version).N) x5 y3.2.2.1.length x6 x7 y3.2.2.2.1.length x8 x9 y3.2.2.2.2.length x10)), (5, .cells ((fr1 1).x) 28 (kc0)), (6, r52 x5 y3.2.2.1), (7, o47 x7 x8 y3.2.2.2.1), (8, o42 x9 x10 y3.2.2.2.2), (9, r52 (cutOb x5 (Int.toNat (((y3.2.2.1.length : Nat) : Int) - (if 0 > a1 then 0 else a1))) x6 7) ((y3.2.2.1.drop (Int.toNat (((y3.2.2.1.length : Nat) : Int) - (if 0 > a1 then 0 else a1)))).take (y3.2.2.1.length - (Int.toNat (((y3.2.2.1.length : Nat) : Int) - (if 0 > a1 then 0 else a1))))))]) rfl (congrArg (fun rr : List (List Value) => ([(4, .cells ((fr1 0).x) 28 (kc9 y3.1 (((y3.2.2.1.getD (Int.toNat ((((y3.2.2.1.length : Nat) : Int) - (if 0 > a1 then 0 else a1)) - 1)) dS_api_Entry).Version).Epoch) (((y3.2.2.1.getD (Int.toNat ((((y3.2.2.1.length : Nat) : Int) - (if 0 > a1 then 0 else a1)) - 1)) dS_api_Entry).Version).N) x5 y3.2.2.1.length x6 x7 y3.2.2.2.1.length x8 x9 y3.2.2.2.2.length x10)), (5, .cells ((fr1 1).x) 28 (kc0)), (6, r52 x5 y3.2.2.1), (7, o47 x7 x8 y3.2.2.2.1), (8, o42 x9 x10 y3.2.2.2.2), (9, .rd (cutOb x5 (Int.toNat (((y3.2.2.1.length : Nat) : Int) - (if 0 > a1 then 0 else a1))) x6 7) 7 rr)] : List (Nat × Ent))) (show ((List.map S_api_Entry.row y3.2.2.1).drop (Int.toNat (((y3.2.2.1.length : Nat) : Int) - (if 0 > a1 then 0 else a1)))).take (y3.2.2.1.length - (Int.toNat (((y3.2.2.1.length : Nat) : Int) - (if 0 > a1 then 0 else a1)))) = List.map S_api_Entry.row ((y3.2.2.1.drop (Int.toNat (((y3.2.2.1.length : Nat) : Int) - (if 0 > a1 then 0 else a1)))).take (y3.2.2.1.length - (Int.toNat (((y3.2.2.1.length : Nat) : Int) - (if 0 > a1 then 0 else a1))))) from (by simp only [List.drop_zero, Nat.sub_zero, List.map_take, List.map_drop]))) ?_
    refine grd_elim hm (fun g23 hm => ?_)
    refine GR.ru (i := 4) 3 (env' := fun fr22 => [(2, .pointer (some ⟨(fr1 0).x, 0, none⟩)), (4, .pointer (some ⟨(fr1 1).x, 0, none⟩))]) (mem' := fun fr22 => [(4, .cells ((fr1 0).x) 28 (kc9 y3.1 (((y3.2.2.1.getD (Int.toNat ((((y3.2.2.1.length : Nat) : Int) - (if 0 > a1 then 0 else a1)) - 1)) dS_api_Entry).Version).Epoch) (((y3.2.2.1.getD (Int.toNat ((((y3.2.2.1.length : Nat) : Int) - (if 0 > a1 then 0 else a1)) - 1)) dS_api_Entry).Version).N) ((fr22 4).ob) (((y3.2.2.1.drop (Int.toNat (((y3.2.2.1.length : Nat) : Int) - (if 0 > a1 then 0 else a1)))).take (y3.2.2.1.length - (Int.toNat (((y3.2.2.1.length : Nat) : Int) - (if 0 > a1 then 0 else a1))))).length) ((fr22 4).cap) x7 y3.2.2.2.1.length x8 x9 y3.2.2.2.2.length x10)), (5, .cells ((fr1 1).x) 28 (kc0)), (7, o47 x7 x8 y3.2.2.2.1), (8, o42 x9 x10 y3.2.2.2.2), (10, .osl ((fr22 4).ob) ((fr22 4).cap) 52 7 (List.map S_api_Entry.row ((y3.2.2.1.drop (Int.toNat (((y3.2.2.1.length : Nat) : Int) - (if 0 > a1 then 0 else a1)))).take (y3.2.2.1.length - (Int.toNat (((y3.2.2.1.length : Nat) : Int) - (if 0 > a1 then 0 else a1)))))))]) (by kernel_rfl) (RunsTo.mk [(4, { act := .app (some 9), key := some 10, spf := some (fun f => .slice (f.ob) (((y3.2.2.1.drop (Int.toNat (((y3.2.2.1.length : Nat) : Int) - (if 0 > a1 then 0 else a1)))).take (y3.2.2.1.length - (Int.toNat (((y3.2.2.1.length : Nat) : Int) - (if 0 > a1 then 0 else a1))))).length) (f.cap)) }), (6, { act := .store 0 0 [], key := some 4 })] [2, 4] [4, 5, 7, 8, 10] (fun fr22 => [(cutOb x5 (Int.toNat (((y3.2.2.1.length : Nat) : Int) - (if 0 > a1 then 0 else a1))) x6 7) = (cutOb x5 (Int.toNat (((y3.2.2.1.length : Nat) : Int) - (if 0 > a1 then 0 else a1))) x6 7), ((y3.2.2.1.drop (Int.toNat (((y3.2.2.1.length : Nat) : Int) - (if 0 > a1 then 0 else a1)))).take (y3.2.2.1.length - (Int.toNat (((y3.2.2.1.length : Nat) : Int) - (if 0 > a1 then 0 else a1))))).length = (List.map S_api_Entry.row ((y3.2.2.1.drop (Int.toNat (((y3.2.2.1.length : Nat) : Int) - (if 0 > a1 then 0 else a1)))).take (y3.2.2.1.length - (Int.toNat (((y3.2.2.1.length : Nat) : Int) - (if 0 > a1 then 0 else a1)))))).length, 0 = 0, 0 = 0, (List.map S_api_Entry.row ((y3.2.2.1.drop (Int.toNat (((y3.2.2.1.length : Nat) : Int) - (if 0 > a1 then 0 else a1)))).take (y3.2.2.1.length - (Int.toNat (((y3.2.2.1.length : Nat) : Int) - (if 0 > a1 then 0 else a1)))))).length * (64 + 1) ≤ 70368744177664, ((.slice ((fr22 4).ob) (0 + (List.map S_api_Entry.row ((y3.2.2.1.drop (Int.toNat (((y3.2.2.1.length : Nat) : Int) - (if 0 > a1 then 0 else a1)))).take (y3.2.2.1.length - (Int.toNat (((y3.2.2.1.length : Nat) : Int) - (if 0 > a1 then 0 else a1)))))).length) ((fr22 4).cap)) : Value) = .slice ((fr22 4).ob) (((y3.2.2.1.drop (Int.toNat (((y3.2.2.1.length : Nat) : Int) - (if 0 > a1 then 0 else a1)))).take (y3.2.2.1.length - (Int.toNat (((y3.2.2.1.length : Nat) : Int) - (if 0 > a1 then 0 else a1))))).length) ((fr22 4).cap), (fr1 0).x = (fr1 0).x, ((.slice ((fr22 4).ob) (((y3.2.2.1.drop (Int.toNat (((y3.2.2.1.length : Nat) : Int) - (if 0 > a1 then 0 else a1)))).take (y3.2.2.1.length - (Int.toNat (((y3.2.2.1.length : Nat) : Int) - (if 0 > a1 then 0 else a1))))).length) ((fr22 4).cap)) : Value).cells.toList.all Value.oneCell' = true]) (fun fr22 => by kernel_rfl) (fun fr22 => ⟨rfl, mlen S_api_Entry.row ((y3.2.2.1.drop (Int.toNat (((y3.2.2.1.length : Nat) : Int) - (if 0 > a1 then 0 else a1)))).take (y3.2.2.1.length - (Int.toNat (((y3.2.2.1.length : Nat) : Int) - (if 0 > a1 then 0 else a1))))), rfl, rfl, appb0 g23 (mlen S_api_Entry.row ((y3.2.2.1.drop (Int.toNat (((y3.2.2.1.length : Nat) : Int) - (if 0 > a1 then 0 else a1)))).take (y3.2.2.1.length - (Int.toNat (((y3.2.2.1.length : Nat) : Int) - (if 0 > a1 then 0 else a1)))))).symm, slen (by rw [(mlen S_api_Entry.row ((y3.2.2.1.drop (Int.toNat (((y3.2.2.1.length : Nat) : Int) - (if 0 > a1 then 0 else a1)))).take (y3.2.2.1.length - (Int.toNat (((y3.2.2.1.length : Nat) : Int) - (if 0 > a1 then 0 else a1)))))).symm, Nat.zero_add]), rfl, rfl, trivial⟩)) ?_
    intro fr22
    refine GR.conv (mem' := [(4, .cells ((fr1 0).x) 28 (kc9 y3.1 (((y3.2.2.1.getD (Int.toNat ((((y3.2.2.1.length : Nat) : Int) - (if 0 > a1 then 0 else a1)) - 1)) dS_api_Entry).Version).Epoch) (((y3.2.2.1.getD (Int.toNat ((((y3.2.2.1.length : Nat) : Int) - (if 0 > a1 then 0 else a1)) - 1)) dS_api_Entry).Version).N) ((fr22 4).ob) (((y3.2.2.1.drop (Int.toNat (((y3.2.2.1.length : Nat) : Int) - (if 0 > a1 then 0 else a1)))).take (y3.2.2.1.length - (Int.toNat (((y3.2.2.1.length : Nat) : Int) - (if 0 > a1 then 0 else a1))))).length) ((fr22 4).cap) x7 y3.2.2.2.1.length x8 x9 y3.2.2.2.2.length x10)), (5, .cells ((fr1 1).x) 28 (kc0)), (7, o47 x7 x8 y3.2.2.2.1), (8, o42 x9 x10 y3.2.2.2.2), (10, o52 ((fr22 4).ob) ((fr22 4).cap) ((y3.2.2.1.drop (Int.toNat (((y3.2.2.1.length : Nat) : Int) - (if 0 > a1 then 0 else a1)))).take (y3.2.2.1.length - (Int.toNat (((y3.2.2.1.length : Nat) : Int) - (if 0 > a1 then 0 else a1))))))]) rfl (congrArg (fun rr : List (List Value) => ([(4, .cells ((fr1 0).x) 28 (kc9 y3.1 (((y3.2.2.1.getD (Int.toNat ((((y3.2.2.1.length : Nat) : Int) - (if 0 > a1 then 0 else a1)) - 1)) dS_api_Entry).Version).Epoch) (((y3.2.2.1.getD (Int.toNat ((((y3.2.2.1.length : Nat) : Int) - (if 0 > a1 then 0 else a1)) - 1)) dS_api_Entry).Version).N) ((fr22 4).ob) (((y3.2.2.1.drop (Int.toNat (((y3.2.2.1.length : Nat) : Int) - (if 0 > a1 then 0 else a1)))).take (y3.2.2.1.length - (Int.toNat (((y3.2.2.1.length : Nat) : Int) - (if 0 > a1 then 0 else a1))))).length) ((fr22 4).cap) x7 y3.2.2.2.1.length x8 x9 y3.2.2.2.2.length x10)), (5, .cells ((fr1 1).x) 28 (kc0)), (7, o47 x7 x8 y3.2.2.2.1), (8, o42 x9 x10 y3.2.2.2.2), (10, .osl ((fr22 4).ob) ((fr22 4).cap) 52 7 rr)] : List (Nat × Ent))) (show List.map S_api_Entry.row ((y3.2.2.1.drop (Int.toNat (((y3.2.2.1.length : Nat) : Int) - (if 0 > a1 then 0 else a1)))).take (y3.2.2.1.length - (Int.toNat (((y3.2.2.1.length : Nat) : Int) - (if 0 > a1 then 0 else a1))))) = List.map S_api_Entry.row ((y3.2.2.1.drop (Int.toNat (((y3.2.2.1.length : Nat) : Int) - (if 0 > a1 then 0 else a1)))).take (y3.2.2.1.length - (Int.toNat (((y3.2.2.1.length : Nat) : Int) - (if 0 > a1 then 0 else a1))))) from rfl)) ?_
    refine GR.dn (by kernel_rfl) ?_
    refine GS.seq ?_
    refine GS.rg (fun _ => [(4, .pointer (some ⟨(fr1 1).x, 0, none⟩))]) (fun _ => [(5, .cells ((fr1 1).x) 28 (kc9 y3.1 (((y3.2.2.1.getD (Int.toNat ((((y3.2.2.1.length : Nat) : Int) - (if 0 > a1 then 0 else a1)) - 1)) dS_api_Entry).Version).Epoch) (((y3.2.2.1.getD (Int.toNat ((((y3.2.2.1.length : Nat) : Int) - (if 0 > a1 then 0 else a1)) - 1)) dS_api_Entry).Version).N) ((fr22 4).ob) (((y3.2.2.1.drop (Int.toNat (((y3.2.2.1.length : Nat) : Int) - (if 0 > a1 then 0 else a1)))).take (y3.2.2.1.length - (Int.toNat (((y3.2.2.1.length : Nat) : Int) - (if 0 > a1 then 0 else a1))))).length) ((fr22 4).cap) x7 y3.2.2.2.1.length x8 x9 y3.2.2.2.2.length x10)), (7, o47 x7 x8 y3.2.2.2.1), (8, o42 x9 x10 y3.2.2.2.2), (10, o52 ((fr22 4).ob) ((fr22 4).cap) ((y3.2.2.1.drop (Int.toNat (((y3.2.2.1.length : Nat) : Int) - (if 0 > a1 then 0 else a1)))).take (y3.2.2.1.length - (Int.toNat (((y3.2.2.1.length : Nat) : Int) - (if 0 > a1 then 0 else a1))))))]) [(0, { act := .load 4 0 0 [] }), (1, { act := .store 0 0 [], key := some 5 })] [4] [5, 7, 8, 10] (fun _ => [(fr1 0).x = (fr1 0).x, (fr1 1).x = (fr1 1).x, ((.agg ((kc9 y3.1 (((y3.2.2.1.getD (Int.toNat ((((y3.2.2.1.length : Nat) : Int) - (if 0 > a1 then 0 else a1)) - 1)) dS_api_Entry).Version).Epoch) (((y3.2.2.1.getD (Int.toNat ((((y3.2.2.1.length : Nat) : Int) - (if 0 > a1 then 0 else a1)) - 1)) dS_api_Entry).Version).N) ((fr22 4).ob) (((y3.2.2.1.drop (Int.toNat (((y3.2.2.1.length : Nat) : Int) - (if 0 > a1 then 0 else a1)))).take (y3.2.2.1.length - (Int.toNat (((y3.2.2.1.length : Nat) : Int) - (if 0 > a1 then 0 else a1))))).length) ((fr22 4).cap) x7 y3.2.2.2.1.length x8 x9 y3.2.2.2.2.length x10)).toArray) : Value).cells.toList.all Value.oneCell' = true]) (fun _ => by kernel_rfl) (fun _ => ⟨rfl, rfl, rfl, trivial⟩) ?_
    intro _
    have hy := Option.some.inj hm
    subst hy
    refine GS.ret (fn := Try.f27) [5] [.agg ((kc9 y3.1 (((y3.2.2.1.getD (Int.toNat ((((y3.2.2.1.length : Nat) : Int) - (if 0 > a1 then 0 else a1)) - 1)) dS_api_Entry).Version).Epoch) (((y3.2.2.1.getD (Int.toNat ((((y3.2.2.1.length : Nat) : Int) - (if 0 > a1 then 0 else a1)) - 1)) dS_api_Entry).Version).N) ((fr22 4).ob) (((y3.2.2.1.drop (Int.toNat (((y3.2.2.1.length : Nat) : Int) - (if 0 > a1 then 0 else a1)))).take (y3.2.2.1.length - (Int.toNat (((y3.2.2.1.length : Nat) : Int) - (if 0 > a1 then 0 else a1))))).length) ((fr22 4).cap) x7 y3.2.2.2.1.length x8 x9 y3.2.2.2.2.length x10)).toArray] [(fr1 1).x = (fr1 1).x] rfl Try.func27 (by kernel_rfl) ⟨rfl, trivial⟩ (fun w' hs => ?_)
    exact ⟨⟨(fr22 4).ob, (fr22 4).cap, x7, x8, x9, x10⟩, rfl, hs.turnedG (ks := [10, 7, 8]) rfl rfl⟩
  · replace hm := br_f h15 hm
    refine GS.skip ?_
    refine GS.seq ?_
    refine GS.rg (fun _ => [(4, .pointer (some ⟨(fr1 1).x, 0, none⟩))]) (fun _ => [(5, .cells ((fr1 1).x) 28 (kc9 y3.1 y3.2.1.Epoch y3.2.1.N x5 y3.2.2.1.length x6 x7 y3.2.2.2.1.length x8 x9 y3.2.2.2.2.length x10)), (6, o52 x5 x6 y3.2.2.1), (7, o47 x7 x8 y3.2.2.2.1), (8, o42 x9 x10 y3.2.2.2.2)]) [(0, { act := .load 4 0 0 [] }), (1, { act := .store 0 0 [], key := some 5 })] [4] [5, 6, 7, 8] (fun _ => [(fr1 0).x = (fr1 0).x, (fr1 1).x = (fr1 1).x, ((.agg ((kc9 y3.1 y3.2.1.Epoch y3.2.1.N x5 y3.2.2.1.length x6 x7 y3.2.2.2.1.length x8 x9 y3.2.2.2.2.length x10)).toArray) : Value).cells.toList.all Value.oneCell' = true]) (fun _ => by kernel_rfl) (fun _ => ⟨rfl, rfl, rfl, trivial⟩) ?_
    intro _
    have hy := Option.some.inj hm
    subst hy
    refine GS.ret (fn := Try.f27) [5] [.agg ((kc9 y3.1 y3.2.1.Epoch y3.2.1.N x5 y3.2.2.1.length x6 x7 y3.2.2.2.1.length x8 x9 y3.2.2.2.2.length x10)).toArray] [(fr1 1).x = (fr1 1).x] rfl Try.func27 (by kernel_rfl) ⟨rfl, trivial⟩ (fun w' hs => ?_)
    exact ⟨⟨x5, x6, x7, x8, x9, x10⟩, rfl, hs.turnedG (ks := [6, 7, 8]) rfl rfl⟩

theorem w_pglog_After (F : Nat) (a0_Les : Int) (a0_Tail : S_api_Version) (a0_Log_o : Option Addr) (a0_Log_c : Nat) (a0_Log : List S_api_Entry) (a0_Lasts_o : Option Addr) (a0_Lasts_c : Nat) (a0_Lasts : List S_api_Last) (a0_Items_o : Option Addr) (a0_Items_c : Nat) (a0_Items : List S_api_Item) (a1 : S_api_Version) {y : List S_api_Entry × Bool} (hm : m_pglog_After F a0_Les a0_Tail a0_Log a0_Lasts a0_Items a1 = some y) : CallG Try.prog 13 #[.agg ((kc9 a0_Les a0_Tail.Epoch a0_Tail.N a0_Log_o a0_Log.length a0_Log_c a0_Lasts_o a0_Lasts.length a0_Lasts_c a0_Items_o a0_Items.length a0_Items_c)).toArray, .agg #[.int .i64 a1.Epoch, .int .i64 a1.N]] (X := Option Addr × Nat) (fun ⟨x0, x1⟩ => .tuple #[.slice x0 y.1.length x1, .bool y.2]) [] [r52 a0_Log_o a0_Log, r47 a0_Lasts_o a0_Lasts, r42 a0_Items_o a0_Items] (fun ⟨x0, x1⟩ => [o52 x0 x1 y.1]) := by
  intro w hg
  rw [m_pglog_After] at hm
  refine GS.start (S := mayT [] [r52 a0_Log_o a0_Log, r47 a0_Lasts_o a0_Lasts, r42 a0_Items_o a0_Items]) (mem := [(1, r52 a0_Log_o a0_Log), (2, r47 a0_Lasts_o a0_Lasts), (3, r42 a0_Items_o a0_Items)]) Try.func13 rfl Try.ntmps13 (Nat.le_of_ble_eq_true rfl) (hg.start rfl) ?_
  refine GS.conv (env' := [(0, .agg ((kc9 a0_Les a0_Tail.Epoch a0_Tail.N a0_Log_o a0_Log.length a0_Log_c a0_Lasts_o a0_Lasts.length a0_Lasts_c a0_Items_o a0_Items.length a0_Items_c)).toArray), (1, .agg #[.int .i64 a1.Epoch, .int .i64 a1.N])]) rfl rfl ?_
  refine GS.seq ?_
  refine GS.rz (fun fr1 => [(2, .pointer (some ⟨(fr1 0).x, 0, none⟩)), (3, .pointer (some ⟨(fr1 1).x, 0, none⟩))]) (fun fr1 => [(1, r52 a0_Log_o a0_Log), (2, r47 a0_Lasts_o a0_Lasts), (3, r42 a0_Items_o a0_Items), (4, .cells ((fr1 0).x) 28 (kc9 a0_Les a0_Tail.Epoch a0_Tail.N a0_Log_o a0_Log.length a0_Log_c a0_Lasts_o a0_Lasts.length a0_Lasts_c a0_Items_o a0_Items.length a0_Items_c)), (5, .cells ((fr1 1).x) 23 [.int .i64 a1.Epoch, .int .i64 a1.N])]) [(0, { act := .new .var, key := some 4 }), (1, { act := .new .var, key := some 5 })] [2, 3] [1, 2, 3, 4, 5] (fun fr1 => by kernel_rfl) ?_
  intro fr1
  refine GS.seq ?_
  refine GS.seq ?_
  refine bnd_elim hm (fun y3 e4 hm => ?_)
  refine GS.rgM (fun _ => [(2, .pointer (some ⟨(fr1 0).x, 0, none⟩)), (3, .pointer (some ⟨(fr1 1).x, 0, none⟩)), (13, .bool (decide (y3 < 0)))]) [(0, { act := .load 5 0 0 [] }), (2, { act := .load 4 0 0 [] }), (3, { act := .call [] (.int .i64 y3) })] [2, 3, 13] [1, 2, 3, 4, 5] (fun _ => [(fr1 1).x = (fr1 1).x, (fr1 0).x = (fr1 0).x, CallOK Try.prog 7 #[.agg #[.int .i64 a1.Epoch, .int .i64 a1.N], .agg #[.int .i64 a0_Tail.Epoch, .int .i64 a0_Tail.N]] (.int .i64 y3) []]) (fun _ => by kernel_rfl) (fun _ => ⟨rfl, rfl, (by have h1 := w_pglog_Cmp F a1 a0_Tail e4; exact h1.ok trivial), trivial⟩) ?_
  intro _
  refine GS.cond (t := decide (y3 < 0)) rfl rfl (fun h5 => ?_) (fun h5 => ?_)
  · replace hm := br_t h5 hm
    refine GS.seq ?_
    refine GS.rz (fun _ => [(4, .slice none 0 0), (5, .bool false)]) (fun _ => []) [] [4, 5] [] (fun _ => by kernel_rfl) ?_
    intro _
    refine GS.setMem (mem' := [(6, o52 none 0 ([] : List S_api_Entry))]) (fun w hw => Sat.addNil hw rfl) ?_
    have hy := Option.some.inj hm
    subst hy
    refine GS.ret (fn := Try.f13) [0, 0] [.slice none 0 0, .bool false] [] rfl Try.func13 (by kernel_rfl) trivial (fun w' hs => ?_)
    exact ⟨⟨none, 0⟩, rfl, hs.turnedG (ks := [6]) rfl rfl⟩
  · replace hm := br_f h5 hm
    refine GS.skip ?_
    refine GS.seq ?_
    refine GS.rzM (fun _ => [(2, .pointer (some ⟨(fr1 0).x, 0, none⟩)), (3, .pointer (some ⟨(fr1 1).x, 0, none⟩)), (6, .slice none 0 0)]) [] [2, 3, 6] [1, 2, 3, 4, 5] (fun _ => by kernel_rfl) ?_
    intro _
    refine GS.seq ?_
    refine GS.seq ?_
    refine GS.rg (fun _ => [(3, .pointer (some ⟨(fr1 1).x, 0, none⟩)), (6, .slice none 0 0), (15, .slice a0_Log_o a0_Log.length a0_Log_c), (16, .int .i64 ((a0_Log.length : Nat) : Int)), (17, .int .i64 0)]) (fun _ => [(1, r52 a0_Log_o a0_Log), (5, .cells ((fr1 1).x) 23 [.int .i64 a1.Epoch, .int .i64 a1.N])]) [(1, { act := .load 4 0 0 [] })] [3, 6, 15, 16, 17] [1, 5] (fun _ => [(fr1 0).x = (fr1 0).x]) (fun _ => by kernel_rfl) (fun _ => ⟨rfl, trivial⟩) ?_
    intro _
    refine GS.block ?_
    refine GS.loop ?_
    refine grd_elim hm (fun g47 hm => ?_)
    refine GS.setMem (mem' := [(1, r52 a0_Log_o a0_Log), (5, .cells ((fr1 1).x) 23 [.int .i64 a1.Epoch, .int .i64 a1.N]), (20001, o52 none 0 ([] : List S_api_Entry))]) (fun w hw => Sat.addNil hw rfl) ?_
    refine GS.rekey (env' := [(3, .pointer (some ⟨(fr1 1).x, 0, none⟩)), (6, .slice none 0 0), (15, .slice a0_Log_o a0_Log.length a0_Log_c), (16, .int .i64 ((a0_Log.length : Nat) : Int)), (17, .int .i64 0)]) (mem' := [(1, r52 a0_Log_o a0_Log), (5, .cells ((fr1 1).x) 23 [.int .i64 a1.Epoch, .int .i64 a1.N]), (20000, o52 none 0 ([] : List S_api_Entry))]) [3, 6, 15, 16, 17] [(1, 1), (5, 5), (20000, 20001)] (by kernel_rfl) (by kernel_rfl) rfl ?_
    refine loopL_elim hm (fun st72 fn73 hst74 hfn75 hm => ?_)
    refine GS.loopInv (ι := List S_api_Entry × Nat × List S_api_Entry × Option Addr × Nat) (I := fun ⟨rs70, v17_1, l20000_1, o20000_1, k20000_1⟩ => a0_Log.drop v17_1 = rs70 ∧ loopL st72 fn73 rs70 v17_1 l20000_1 = some y) (μ := fun ⟨rs70, v17_1, l20000_1, o20000_1, k20000_1⟩ => rs70.length) (E := fun ⟨rs70, v17_1, l20000_1, o20000_1, k20000_1⟩ => [(3, .pointer (some ⟨(fr1 1).x, 0, none⟩)), (6, .slice o20000_1 l20000_1.length k20000_1), (15, .slice a0_Log_o a0_Log.length a0_Log_c), (16, .int .i64 ((a0_Log.length : Nat) : Int)), (17, .int .i64 ((v17_1 : Nat) : Int))]) (M := fun ⟨rs70, v17_1, l20000_1, o20000_1, k20000_1⟩ => [(1, r52 a0_Log_o a0_Log), (5, .cells ((fr1 1).x) 23 [.int .i64 a1.Epoch, .int .i64 a1.N]), (20000, o52 o20000_1 k20000_1 l20000_1)]) ?_ ⟨a0_Log, 0, ([] : List S_api_Entry), none, 0⟩ ⟨List.drop_zero .., hm⟩
    rintro ⟨rs70, v17_1, l20000_1, o20000_1, k20000_1⟩ ⟨hd46, hm⟩ ih71
    cases rs70 with
    | nil =>
      replace hm := (hfn75 _ _).symm.trans hm
      try dsimp only at hm
      refine GS.seq ?_
      refine GS.rzM (fun _ => [(3, .pointer (some ⟨(fr1 1).x, 0, none⟩)), (6, .slice o20000_1 l20000_1.length k20000_1), (15, .slice a0_Log_o a0_Log.length a0_Log_c), (16, .int .i64 ((a0_Log.length : Nat) : Int)), (17, .int .i64 ((v17_1 : Nat) : Int)), (18, .bool (decide (((v17_1 : Nat) : Int) < ((a0_Log.length : Nat) : Int))))]) [] [3, 6, 15, 16, 17, 18] [1, 5, 20000] (fun _ => by kernel_rfl) ?_
      intro _
      refine GS.seq ?_
      refine GS.cond (t := decide (((v17_1 : Nat) : Int) < ((a0_Log.length : Nat) : Int))) rfl rfl (fun h68 => absb h68 (drop_dec0 hd46)) (fun _ => ?_)
      refine GS.exit rfl ?_
      refine GS.seq ?_
      refine GS.rz (fun _ => [(4, .slice o20000_1 l20000_1.length k20000_1), (5, .bool true)]) (fun _ => [(20000, o52 o20000_1 k20000_1 l20000_1)]) [] [4, 5] [20000] (fun _ => by kernel_rfl) ?_
      intro _
      have hy := Option.some.inj hm
      subst hy
      refine GS.ret (fn := Try.f13) [0, 0] [.slice o20000_1 l20000_1.length k20000_1, .bool true] [] rfl Try.func13 (by kernel_rfl) trivial (fun w' hs => ?_)
      exact ⟨⟨o20000_1, k20000_1⟩, rfl, hs.turnedG (ks := [20000]) rfl rfl⟩
    | cons x48 rs70 =>
      replace hm := (hst74 _ _ _ _).symm.trans hm
      try dsimp only at hm
      refine GS.seq ?_
      refine GS.rzM (fun _ => [(3, .pointer (some ⟨(fr1 1).x, 0, none⟩)), (6, .slice o20000_1 l20000_1.length k20000_1), (15, .slice a0_Log_o a0_Log.length a0_Log_c), (16, .int .i64 ((a0_Log.length : Nat) : Int)), (17, .int .i64 ((v17_1 : Nat) : Int)), (18, .bool (decide (((v17_1 : Nat) : Int) < ((a0_Log.length : Nat) : Int))))]) [] [3, 6, 15, 16, 17, 18] [1, 5, 20000] (fun _ => by kernel_rfl) ?_
      intro _
      refine GS.seq ?_
      refine GS.cond (t := decide (((v17_1 : Nat) : Int) < ((a0_Log.length : Nat) : Int))) rfl rfl (fun _ => ?_) (fun h50 => absb (drop_dec hd46) h50)
      refine GS.skip ?_
      refine GS.seq ?_
      refine GS.block ?_
      refine GS.seq ?_
      refine GS.rg (fun fr51 => [(3, .pointer (some ⟨(fr1 1).x, 0, none⟩)), (6, .slice o20000_1 l20000_1.length k20000_1), (8, .pointer (some ⟨(fr51 2).x, 0, none⟩)), (15, .slice a0_Log_o a0_Log.length a0_Log_c), (16, .int .i64 ((a0_Log.length : Nat) : Int)), (17, .int .i64 ((v17_1 : Nat) : Int))]) (fun fr51 => [(1, r52 a0_Log_o a0_Log), (5, .cells ((fr1 1).x) 23 [.int .i64 a1.Epoch, .int .i64 a1.N]), (20000, o52 o20000_1 k20000_1 l20000_1), (20001, .cells ((fr51 2).x) 52 (kc4 x48.Version.Epoch x48.Version.N x48.Remove x48.Errno x48.Name x48.Client x48.Number))]) [(0, { act := .idx 1 v17_1 }), (1, { act := .load 1 v17_1 0 [.int .i64 x48.Version.Epoch, .int .i64 x48.Version.N, .bool x48.Remove, .int .i64 x48.Errno, .string x48.Name, .int .i64 x48.Client, .int .i64 x48.Number] }), (2, { act := .new .var, key := some 20001 }), (3, { act := .store 0 0 [], key := some 20001 })] [3, 6, 8, 15, 16, 17] [1, 5, 20000, 20001] (fun fr51 => [a0_Log_o = a0_Log_o, a0_Log.length = (List.map S_api_Entry.row a0_Log).length, (((v17_1 : Nat) : Int) : Int) = ((v17_1 : Nat) : Int), v17_1 < a0_Log.length, blk a0_Log_o = blk a0_Log_o, offs a0_Log_o + v17_1 * 7 = offs a0_Log_o + (v17_1 * 7 + 0), (List.map S_api_Entry.row a0_Log)[v17_1]? = some [.int .i64 x48.Version.Epoch, .int .i64 x48.Version.N, .bool x48.Remove, .int .i64 x48.Errno, .string x48.Name, .int .i64 x48.Client, .int .i64 x48.Number], (fr51 2).x = (fr51 2).x, ((.agg ((kc4 x48.Version.Epoch x48.Version.N x48.Remove x48.Errno x48.Name x48.Client x48.Number)).toArray) : Value).cells.toList.all Value.oneCell' = true]) (fun fr51 => by kernel_rfl) (fun fr51 => ⟨rfl, mlen S_api_Entry.row a0_Log, rfl, (drop_lt hd46), rfl, rfl, map_drop S_api_Entry.row hd46, rfl, rfl, trivial⟩) ?_
      intro fr51
      refine GS.seq ?_
      refine bnd_elim hm (fun y53 e54 hm => ?_)
      refine GS.rgM (fun _ => [(3, .pointer (some ⟨(fr1 1).x, 0, none⟩)), (6, .slice o20000_1 l20000_1.length k20000_1), (8, .pointer (some ⟨(fr51 2).x, 0, none⟩)), (15, .slice a0_Log_o a0_Log.length a0_Log_c), (16, .int .i64 ((a0_Log.length : Nat) : Int)), (17, .int .i64 ((v17_1 : Nat) : Int)), (25, .bool (decide (y53 > 0)))]) [(1, { act := .load 20001 0 0 [] }), (2, { act := .load 5 0 0 [] }), (3, { act := .call [] (.int .i64 y53) })] [3, 6, 8, 15, 16, 17, 25] [1, 5, 20000, 20001] (fun _ => [(fr51 2).x = (fr51 2).x, (fr1 1).x = (fr1 1).x, CallOK Try.prog 7 #[.agg #[.int .i64 x48.Version.Epoch, .int .i64 x48.Version.N], .agg #[.int .i64 a1.Epoch, .int .i64 a1.N]] (.int .i64 y53) []]) (fun _ => by kernel_rfl) (fun _ => ⟨rfl, rfl, (by have h1 := w_pglog_Cmp F x48.Version a1 e54; exact h1.ok trivial), trivial⟩) ?_
      intro _
      refine GS.cond (t := decide (y53 > 0)) rfl rfl (fun h55 => ?_) (fun h55 => ?_)
      · replace hm := br_t h55 hm
        refine grd_elim hm (fun g57 hm => ?_)
        refine GS.rg (fun fr56 => [(3, .pointer (some ⟨(fr1 1).x, 0, none⟩)), (6, .slice ((fr56 3).ob) ((l20000_1 ++ [x48]).length) ((fr56 3).cap)), (15, .slice a0_Log_o a0_Log.length a0_Log_c), (16, .int .i64 ((a0_Log.length : Nat) : Int)), (17, .int .i64 ((v17_1 : Nat) : Int))]) (fun fr56 => [(1, r52 a0_Log_o a0_Log), (5, .cells ((fr1 1).x) 23 [.int .i64 a1.Epoch, .int .i64 a1.N]), (20000, .osl ((fr56 3).ob) ((fr56 3).cap) 52 7 ((List.map S_api_Entry.row l20000_1) ++ ([[.int .i64 x48.Version.Epoch, .int .i64 x48.Version.N, .bool x48.Remove, .int .i64 x48.Errno, .string x48.Name, .int .i64 x48.Client, .int .i64 x48.Number]] : List (List Value))))]) [(1, { act := .load 20001 0 0 [] }), (2, { act := .new (.row 1 7), key := some 20002, spf := some (fun f => .slice (some (Addr.mk f.x 0 none)) ([x48].length) 1) }), (3, { act := .app (some 20002), key := some 20000, spf := some (fun f => .slice (f.ob) ((l20000_1 ++ [x48]).length) (f.cap)) })] [3, 6, 15, 16, 17] [1, 5, 20000] (fun fr56 => [(fr51 2).x = (fr51 2).x, ((.slice (some (Addr.mk (fr56 2).x 0 none)) 1 1) : Value) = .slice (some (Addr.mk (fr56 2).x 0 none)) ([x48].length) 1, (some (Addr.mk (fr56 2).x 0 none)) = (some (Addr.mk (fr56 2).x 0 none)), [x48].length = ([[.int .i64 x48.Version.Epoch, .int .i64 x48.Version.N, .bool x48.Remove, .int .i64 x48.Errno, .string x48.Name, .int .i64 x48.Client, .int .i64 x48.Number]] : List (List Value)).length, o20000_1 = o20000_1, k20000_1 = k20000_1, l20000_1.length = (List.map S_api_Entry.row l20000_1).length, ((List.map S_api_Entry.row l20000_1).length + ([[.int .i64 x48.Version.Epoch, .int .i64 x48.Version.N, .bool x48.Remove, .int .i64 x48.Errno, .string x48.Name, .int .i64 x48.Client, .int .i64 x48.Number]] : List (List Value)).length) * (64 + 1) ≤ 70368744177664, ([[.int .i64 x48.Version.Epoch, .int .i64 x48.Version.N, .bool x48.Remove, .int .i64 x48.Errno, .string x48.Name, .int .i64 x48.Client, .int .i64 x48.Number]] : List (List Value)).flatten.all Value.oneCell' = true, ((.slice ((fr56 3).ob) (l20000_1.length + ([[.int .i64 x48.Version.Epoch, .int .i64 x48.Version.N, .bool x48.Remove, .int .i64 x48.Errno, .string x48.Name, .int .i64 x48.Client, .int .i64 x48.Number]] : List (List Value)).length) ((fr56 3).cap)) : Value) = .slice ((fr56 3).ob) ((l20000_1 ++ [x48]).length) ((fr56 3).cap)]) (fun fr56 => by kernel_rfl) (fun fr56 => ⟨rfl, rfl, rfl, (by rw [show ([[.int .i64 x48.Version.Epoch, .int .i64 x48.Version.N, .bool x48.Remove, .int .i64 x48.Errno, .string x48.Name, .int .i64 x48.Client, .int .i64 x48.Number]] : List (List Value)) = List.map S_api_Entry.row [x48] from rfl]; exact mlen S_api_Entry.row [x48]), rfl, rfl, mlen S_api_Entry.row l20000_1, appb g57 (mlen S_api_Entry.row l20000_1).symm (by rw [show ([[.int .i64 x48.Version.Epoch, .int .i64 x48.Version.N, .bool x48.Remove, .int .i64 x48.Errno, .string x48.Name, .int .i64 x48.Client, .int .i64 x48.Number]] : List (List Value)) = List.map S_api_Entry.row [x48] from rfl]; exact (mlen S_api_Entry.row [x48]).symm), (by rw [show ([[.int .i64 x48.Version.Epoch, .int .i64 x48.Version.N, .bool x48.Remove, .int .i64 x48.Errno, .string x48.Name, .int .i64 x48.Client, .int .i64 x48.Number]] : List (List Value)) = List.map S_api_Entry.row [x48] from (show ([[.int .i64 x48.Version.Epoch, .int .i64 x48.Version.N, .bool x48.Remove, .int .i64 x48.Errno, .string x48.Name, .int .i64 x48.Client, .int .i64 x48.Number]] : List (List Value)) = List.map S_api_Entry.row [x48] from rfl)]; exact all_one S_api_Entry.row _ (fun _ => rfl)), slen (by simp), trivial⟩) ?_
        intro fr56
        refine GS.conv (mem' := [(1, r52 a0_Log_o a0_Log), (5, .cells ((fr1 1).x) 23 [.int .i64 a1.Epoch, .int .i64 a1.N]), (20000, o52 ((fr56 3).ob) ((fr56 3).cap) (l20000_1 ++ [x48]))]) rfl (congrArg (fun rr : List (List Value) => ([(1, r52 a0_Log_o a0_Log), (5, .cells ((fr1 1).x) 23 [.int .i64 a1.Epoch, .int .i64 a1.N]), (20000, .osl ((fr56 3).ob) ((fr56 3).cap) 52 7 rr)] : List (Nat × Ent))) (show (List.map S_api_Entry.row l20000_1) ++ ([[.int .i64 x48.Version.Epoch, .int .i64 x48.Version.N, .bool x48.Remove, .int .i64 x48.Errno, .string x48.Name, .int .i64 x48.Client, .int .i64 x48.Number]] : List (List Value)) = List.map S_api_Entry.row (l20000_1 ++ [x48]) from (by rw [show List.map S_api_Entry.row l20000_1 = List.map S_api_Entry.row l20000_1 from rfl, show ([[.int .i64 x48.Version.Epoch, .int .i64 x48.Version.N, .bool x48.Remove, .int .i64 x48.Errno, .string x48.Name, .int .i64 x48.Client, .int .i64 x48.Number]] : List (List Value)) = List.map S_api_Entry.row [x48] from (show ([[.int .i64 x48.Version.Epoch, .int .i64 x48.Version.N, .bool x48.Remove, .int .i64 x48.Errno, .string x48.Name, .int .i64 x48.Client, .int .i64 x48.Number]] : List (List Value)) = List.map S_api_Entry.row [x48] from rfl)]; exact mapp S_api_Entry.row _ _))) ?_
        refine GS.inBlock ?_
        refine GS.rgM (fun _ => [(3, .pointer (some ⟨(fr1 1).x, 0, none⟩)), (6, .slice ((fr56 3).ob) ((l20000_1 ++ [x48]).length) ((fr56 3).cap)), (15, .slice a0_Log_o a0_Log.length a0_Log_c), (16, .int .i64 ((a0_Log.length : Nat) : Int)), (17, .int .i64 ((v17_1 + 1 : Nat) : Int))]) [(0, { sp := some (.int .i64 ((v17_1 + 1 : Nat) : Int)) })] [3, 6, 15, 16, 17] [1, 5, 20000] (fun _ => [((.int .i64 (IntKind.i64.wrap (((v17_1 : Nat) : Int) + 1))) : Value) = .int .i64 ((v17_1 + 1 : Nat) : Int)]) (fun _ => by kernel_rfl) (fun _ => ⟨natw (drop_lt hd46) g47, trivial⟩) ?_
        intro _
        refine GS.inLoop ?_
        refine GS.rekey (env' := [(3, .pointer (some ⟨(fr1 1).x, 0, none⟩)), (6, .slice ((fr56 3).ob) ((l20000_1 ++ [x48]).length) ((fr56 3).cap)), (15, .slice a0_Log_o a0_Log.length a0_Log_c), (16, .int .i64 ((a0_Log.length : Nat) : Int)), (17, .int .i64 ((v17_1 + 1 : Nat) : Int))]) (mem' := [(1, r52 a0_Log_o a0_Log), (5, .cells ((fr1 1).x) 23 [.int .i64 a1.Epoch, .int .i64 a1.N]), (20000, o52 ((fr56 3).ob) ((fr56 3).cap) (l20000_1 ++ [x48]))]) [3, 6, 15, 16, 17] [(1, 1), (5, 5), (20000, 20000)] (by kernel_rfl) (by kernel_rfl) rfl ?_
        exact ih71 ⟨rs70, v17_1 + 1, (l20000_1 ++ [x48]), (fr56 3).ob, (fr56 3).cap⟩ ⟨drop_next hd46, hm⟩ (Nat.lt_succ_self _)
      · replace hm := br_f h55 hm
        refine GS.skip ?_
        refine GS.inBlock ?_
        refine GS.rg (fun _ => [(3, .pointer (some ⟨(fr1 1).x, 0, none⟩)), (6, .slice o20000_1 l20000_1.length k20000_1), (15, .slice a0_Log_o a0_Log.length a0_Log_c), (16, .int .i64 ((a0_Log.length : Nat) : Int)), (17, .int .i64 ((v17_1 + 1 : Nat) : Int))]) (fun _ => [(1, r52 a0_Log_o a0_Log), (5, .cells ((fr1 1).x) 23 [.int .i64 a1.Epoch, .int .i64 a1.N]), (20000, o52 o20000_1 k20000_1 l20000_1)]) [(0, { sp := some (.int .i64 ((v17_1 + 1 : Nat) : Int)) })] [3, 6, 15, 16, 17] [1, 5, 20000] (fun _ => [((.int .i64 (IntKind.i64.wrap (((v17_1 : Nat) : Int) + 1))) : Value) = .int .i64 ((v17_1 + 1 : Nat) : Int)]) (fun _ => by kernel_rfl) (fun _ => ⟨natw (drop_lt hd46) g47, trivial⟩) ?_
        intro _
        refine GS.inLoop ?_
        refine GS.rekey (env' := [(3, .pointer (some ⟨(fr1 1).x, 0, none⟩)), (6, .slice o20000_1 l20000_1.length k20000_1), (15, .slice a0_Log_o a0_Log.length a0_Log_c), (16, .int .i64 ((a0_Log.length : Nat) : Int)), (17, .int .i64 ((v17_1 + 1 : Nat) : Int))]) (mem' := [(1, r52 a0_Log_o a0_Log), (5, .cells ((fr1 1).x) 23 [.int .i64 a1.Epoch, .int .i64 a1.N]), (20000, o52 o20000_1 k20000_1 l20000_1)]) [3, 6, 15, 16, 17] [(1, 1), (5, 5), (20000, 20000)] (by kernel_rfl) (by kernel_rfl) rfl ?_
        exact ih71 ⟨rs70, v17_1 + 1, l20000_1, o20000_1, k20000_1⟩ ⟨drop_next hd46, hm⟩ (Nat.lt_succ_self _)

theorem w_pglog_Find_3 (F : Nat) {y : Unit} (hm : m_pglog_Find_3 F = some y) : CallG Try.prog 15 #[.agg ((kc0)).toArray, .string (ByteArray.mk #[102])] (X := Unit) (fun (_ : Unit) => .tuple #[.agg ((kc5)).toArray, .bool false]) [] [] (fun (_ : Unit) => []) := by
  intro w hg
  rw [m_pglog_Find_3] at hm
  refine GS.start (S := mayT [] []) (mem := []) Try.func15 rfl Try.ntmps15 (Nat.le_of_ble_eq_true rfl) (hg.start rfl) ?_
  refine GS.conv (env' := [(0, .agg ((kc0)).toArray), (1, .string (ByteArray.mk #[102]))]) rfl rfl ?_
  refine GS.seq ?_
  refine GS.rz (fun fr1 => [(1, .string (ByteArray.mk #[102])), (2, .pointer (some ⟨(fr1 0).x, 0, none⟩)), (4, .pointer (some ⟨(fr1 1).x, 0, none⟩))]) (fun fr1 => [(1, .cells ((fr1 0).x) 28 (kc0)), (2, .cells ((fr1 1).x) 42 (kc5))]) [(0, { act := .new .var, key := some 1 }), (1, { act := .new .var, key := some 2 })] [1, 2, 4] [1, 2] (fun fr1 => by kernel_rfl) ?_
  intro fr1
  refine GS.seq ?_
  refine GS.seq ?_
  refine GS.rg (fun _ => [(1, .string (ByteArray.mk #[102])), (4, .pointer (some ⟨(fr1 1).x, 0, none⟩)), (9, .slice none 0 0), (10, .int .i64 0), (11, .int .i64 0)]) (fun _ => [(2, .cells ((fr1 1).x) 42 (kc5))]) [(1, { act := .load 1 0 0 [] })] [1, 4, 9, 10, 11] [2] (fun _ => [(fr1 0).x = (fr1 0).x]) (fun _ => by kernel_rfl) (fun _ => ⟨rfl, trivial⟩) ?_
  intro _
  refine GS.block ?_
  refine GS.loop ?_
  refine GS.seq ?_
  refine GS.rzM (fun _ => [(1, .string (ByteArray.mk #[102])), (4, .pointer (some ⟨(fr1 1).x, 0, none⟩)), (9, .slice none 0 0), (10, .int .i64 0), (11, .int .i64 0), (12, .bool false)]) [] [1, 4, 9, 10, 11, 12] [2] (fun _ => by kernel_rfl) ?_
  intro _
  refine GS.seq ?_
  refine GS.cond (t := false) rfl rfl (fun hf => by cases hf) (fun _ => ?_)
  refine GS.exit rfl ?_
  refine GS.seq ?_
  refine GS.rgM (fun _ => [(4, .pointer (some ⟨(fr1 1).x, 0, none⟩)), (5, .bool false)]) [(1, { act := .store 0 0 [], key := some 2 })] [4, 5] [2] (fun _ => [(fr1 1).x = (fr1 1).x, ((.agg ((kc5)).toArray) : Value).cells.toList.all Value.oneCell' = true]) (fun _ => by kernel_rfl) (fun _ => ⟨rfl, rfl, trivial⟩) ?_
  intro _
  have hy := Option.some.inj hm
  subst hy
  refine GS.ret (fn := Try.f15) [2, 0] [.agg ((kc5)).toArray, .bool false] [(fr1 1).x = (fr1 1).x] rfl Try.func15 (by kernel_rfl) ⟨rfl, trivial⟩ (fun w' hs => ?_)
  exact ⟨(), rfl, hs.turnedG (ks := []) rfl rfl⟩

theorem w_pglog_Head_3 (F : Nat) {y : Unit} (hm : m_pglog_Head_3 F = some y) : CallG Try.prog 23 #[.agg ((kc0)).toArray] (X := Unit) (fun (_ : Unit) => .agg #[.int .i64 0, .int .i64 0]) [] [] (fun (_ : Unit) => []) := by
  intro w hg
  rw [m_pglog_Head_3] at hm
  refine GS.start (S := mayT [] []) (mem := []) Try.func23 rfl Try.ntmps23 (Nat.le_of_ble_eq_true rfl) (hg.start rfl) ?_
  refine GS.conv (env' := [(0, .agg ((kc0)).toArray)]) rfl rfl ?_
  refine GS.seq ?_
  refine GS.rz (fun fr1 => [(1, .pointer (some ⟨(fr1 0).x, 0, none⟩)), (2, .pointer (some ⟨(fr1 1).x, 0, none⟩))]) (fun fr1 => [(1, .cells ((fr1 0).x) 28 (kc0)), (2, .cells ((fr1 1).x) 23 [.int .i64 0, .int .i64 0])]) [(0, { act := .new .var, key := some 1 }), (1, { act := .new .var, key := some 2 })] [1, 2] [1, 2] (fun fr1 => by kernel_rfl) ?_
  intro fr1
  refine GS.seq ?_
  refine GS.seq ?_
  refine GS.rgM (fun _ => [(1, .pointer (some ⟨(fr1 0).x, 0, none⟩)), (2, .pointer (some ⟨(fr1 1).x, 0, none⟩)), (3, .int .i64 0)]) [(1, { act := .load 1 0 0 [] })] [1, 2, 3] [1, 2] (fun _ => [(fr1 0).x = (fr1 0).x]) (fun _ => by kernel_rfl) (fun _ => ⟨rfl, trivial⟩) ?_
  intro _
  refine GS.seq ?_
  refine GS.rzM (fun _ => [(1, .pointer (some ⟨(fr1 0).x, 0, none⟩)), (2, .pointer (some ⟨(fr1 1).x, 0, none⟩)), (3, .int .i64 0), (8, .bool false)]) [] [1, 2, 3, 8] [1, 2] (fun _ => by kernel_rfl) ?_
  intro _
  refine GS.cond (t := false) rfl rfl (fun hf => by cases hf) (fun _ => ?_)
  refine GS.skip ?_
  refine GS.seq ?_
  refine GS.rg (fun _ => [(2, .pointer (some ⟨(fr1 1).x, 0, none⟩))]) (fun _ => [(2, .cells ((fr1 1).x) 23 [.int .i64 0, .int .i64 0])]) [(1, { act := .load 1 0 0 [] }), (2, { act := .store 0 0 [], key := some 2 })] [2] [2] (fun _ => [(fr1 0).x = (fr1 0).x, (fr1 1).x = (fr1 1).x, ((.agg #[.int .i64 0, .int .i64 0]) : Value).cells.toList.all Value.oneCell' = true]) (fun _ => by kernel_rfl) (fun _ => ⟨rfl, rfl, rfl, trivial⟩) ?_
  intro _
  have hy := Option.some.inj hm
  subst hy
  refine GS.ret (fn := Try.f23) [2] [.agg #[.int .i64 0, .int .i64 0]] [(fr1 1).x = (fr1 1).x] rfl Try.func23 (by kernel_rfl) ⟨rfl, trivial⟩ (fun w' hs => ?_)
  exact ⟨(), rfl, hs.turnedG (ks := []) rfl rfl⟩

theorem w_cmp_isNaN_int__2 (F : Nat) {y : Unit} (hm : m_cmp_isNaN_int__2 F = some y) : CallG Try.prog 46 #[.int .i64 1] (X := Unit) (fun (_ : Unit) => .bool false) [] [] (fun (_ : Unit) => []) := by
  intro w hg
  rw [m_cmp_isNaN_int__2] at hm
  refine GS.start (S := mayT [] []) (mem := []) Try.func46 rfl Try.ntmps46 (Nat.le_of_ble_eq_true rfl) (hg.start rfl) ?_
  refine GS.conv (env' := [(0, .int .i64 1)]) rfl rfl ?_
  refine GS.seq ?_
  refine GS.rzM (fun _ => [(0, .int .i64 1)]) [] [0] [] (fun _ => by kernel_rfl) ?_
  intro _
  refine GS.seq ?_
  refine GS.rzM (fun _ => [(2, .bool false)]) [] [2] [] (fun _ => by kernel_rfl) ?_
  intro _
  have hy := Option.some.inj hm
  subst hy
  refine GS.ret (fn := Try.f46) [0] [.bool false] [] rfl Try.func46 (by kernel_rfl) trivial (fun w' hs => ?_)
  exact ⟨(), rfl, hs.turnedG (ks := []) rfl rfl⟩

theorem w_cmp_isNaN_int__3 (F : Nat) {y : Unit} (hm : m_cmp_isNaN_int__3 F = some y) : CallG Try.prog 46 #[.int .i64 0] (X := Unit) (fun (_ : Unit) => .bool false) [] [] (fun (_ : Unit) => []) := by
  intro w hg
  rw [m_cmp_isNaN_int__3] at hm
  refine GS.start (S := mayT [] []) (mem := []) Try.func46 rfl Try.ntmps46 (Nat.le_of_ble_eq_true rfl) (hg.start rfl) ?_
  refine GS.conv (env' := [(0, .int .i64 0)]) rfl rfl ?_
  refine GS.seq ?_
  refine GS.rzM (fun _ => [(0, .int .i64 0)]) [] [0] [] (fun _ => by kernel_rfl) ?_
  intro _
  refine GS.seq ?_
  refine GS.rzM (fun _ => [(2, .bool false)]) [] [2] [] (fun _ => by kernel_rfl) ?_
  intro _
  have hy := Option.some.inj hm
  subst hy
  refine GS.ret (fn := Try.f46) [0] [.bool false] [] rfl Try.func46 (by kernel_rfl) trivial (fun w' hs => ?_)
  exact ⟨(), rfl, hs.turnedG (ks := []) rfl rfl⟩

theorem w_cmp_Compare_int__2 (F : Nat) {y : Unit} (hm : m_cmp_Compare_int__2 F = some y) : CallG Try.prog 29 #[.int .i64 1, .int .i64 0] (X := Unit) (fun (_ : Unit) => .int .i64 1) [] [] (fun (_ : Unit) => []) := by
  intro w hg
  rw [m_cmp_Compare_int__2] at hm
  refine GS.start (S := mayT [] []) (mem := []) Try.func29 rfl Try.ntmps29 (Nat.le_of_ble_eq_true rfl) (hg.start rfl) ?_
  refine GS.conv (env' := [(0, .int .i64 1), (1, .int .i64 0)]) rfl rfl ?_
  refine GS.seq ?_
  refine GS.rzM (fun _ => [(0, .int .i64 1), (1, .int .i64 0)]) [] [0, 1] [] (fun _ => by kernel_rfl) ?_
  intro _
  refine GS.seq ?_
  refine bnd_elim hm (fun y3 e4 hm => ?_)
  refine GS.rgM (fun _ => [(0, .int .i64 1), (1, .int .i64 0), (5, .bool false)]) [(1, { act := .call [] (.bool false) })] [0, 1, 5] [] (fun _ => [CallOK Try.prog 46 #[.int .i64 1] (.bool false) []]) (fun _ => by kernel_rfl) (fun _ => ⟨(by have h1 := w_cmp_isNaN_int__2 F  e4; exact h1.ok trivial), trivial⟩) ?_
  intro _
  refine GS.seq ?_
  refine bnd_elim hm (fun y6 e7 hm => ?_)
  refine GS.rgM (fun _ => [(0, .int .i64 1), (1, .int .i64 0), (5, .bool false), (6, .bool false)]) [(1, { act := .call [] (.bool false) })] [0, 1, 5, 6] [] (fun _ => [CallOK Try.prog 46 #[.int .i64 0] (.bool false) []]) (fun _ => by kernel_rfl) (fun _ => ⟨(by have h1 := w_cmp_isNaN_int__3 F  e7; exact h1.ok trivial), trivial⟩) ?_
  intro _
  refine GS.seq ?_
  refine GS.seq ?_
  refine GS.rzM (fun _ => [(0, .int .i64 1), (1, .int .i64 0), (6, .bool false), (11, .bool false)]) [] [0, 1, 6, 11] [] (fun _ => by kernel_rfl) ?_
  intro _
  refine GS.cond (t := false) rfl rfl (fun hf => by cases hf) (fun _ => ?_)
  refine GS.skip ?_
  refine GS.seq ?_
  refine GS.seq ?_
  refine GS.rzM (fun _ => [(0, .int .i64 1), (1, .int .i64 0), (13, .bool false)]) [] [0, 1, 13] [] (fun _ => by kernel_rfl) ?_
  intro _
  refine GS.cond (t := false) rfl rfl (fun hf => by cases hf) (fun _ => ?_)
  refine GS.skip ?_
  refine GS.seq ?_
  refine GS.seq ?_
  refine GS.rzM (fun _ => [(0, .int .i64 1), (1, .int .i64 0), (16, .bool false)]) [] [0, 1, 16] [] (fun _ => by kernel_rfl) ?_
  intro _
  refine GS.cond (t := false) rfl rfl (fun hf => by cases hf) (fun _ => ?_)
  refine GS.skip ?_
  refine GS.seq ?_
  refine GS.seq ?_
  refine GS.rzM (fun _ => [(19, .bool true)]) [] [19] [] (fun _ => by kernel_rfl) ?_
  intro _
  refine GS.cond (t := true) rfl rfl (fun _ => ?_) (fun hf => by cases hf)
  refine GS.seq ?_
  refine GS.rzM (fun _ => [(4, .int .i64 1)]) [] [4] [] (fun _ => by kernel_rfl) ?_
  intro _
  have hy := Option.some.inj hm
  subst hy
  refine GS.ret (fn := Try.f29) [0] [.int .i64 1] [] rfl Try.func29 (by kernel_rfl) trivial (fun w' hs => ?_)
  exact ⟨(), rfl, hs.turnedG (ks := []) rfl rfl⟩

theorem w_pglog_Cmp_2 (F : Nat) {y : Unit} (hm : m_pglog_Cmp_2 F = some y) : CallG Try.prog 7 #[.agg #[.int .i64 1, .int .i64 1], .agg #[.int .i64 0, .int .i64 0]] (X := Unit) (fun (_ : Unit) => .int .i64 1) [] [] (fun (_ : Unit) => []) := by
  intro w hg
  rw [m_pglog_Cmp_2] at hm
  refine GS.start (S := mayT [] []) (mem := []) Try.func7 rfl Try.ntmps7 (Nat.le_of_ble_eq_true rfl) (hg.start rfl) ?_
  refine GS.conv (env' := [(0, .agg #[.int .i64 1, .int .i64 1]), (1, .agg #[.int .i64 0, .int .i64 0])]) rfl rfl ?_
  refine GS.seq ?_
  refine GS.rz (fun fr1 => [(2, .pointer (some ⟨(fr1 0).x, 0, none⟩)), (3, .pointer (some ⟨(fr1 1).x, 0, none⟩))]) (fun fr1 => [(1, .cells ((fr1 0).x) 23 [.int .i64 1, .int .i64 1]), (2, .cells ((fr1 1).x) 23 [.int .i64 0, .int .i64 0])]) [(0, { act := .new .var, key := some 1 }), (1, { act := .new .var, key := some 2 })] [2, 3] [1, 2] (fun fr1 => by kernel_rfl) ?_
  intro fr1
  refine GS.seq ?_
  refine GS.seq ?_
  refine bnd_elim hm (fun y3 e4 hm => ?_)
  refine GS.rgM (fun _ => [(2, .pointer (some ⟨(fr1 0).x, 0, none⟩)), (3, .pointer (some ⟨(fr1 1).x, 0, none⟩)), (5, .int .i64 1)]) [(1, { act := .load 1 0 0 [] }), (3, { act := .load 2 0 0 [] }), (4, { act := .call [] (.int .i64 1) })] [2, 3, 5] [1, 2] (fun _ => [(fr1 0).x = (fr1 0).x, (fr1 1).x = (fr1 1).x, CallOK Try.prog 29 #[.int .i64 1, .int .i64 0] (.int .i64 1) []]) (fun _ => by kernel_rfl) (fun _ => ⟨rfl, rfl, (by have h1 := w_cmp_Compare_int__2 F  e4; exact h1.ok trivial), trivial⟩) ?_
  intro _
  refine GS.seq ?_
  refine GS.rzM (fun _ => [(2, .pointer (some ⟨(fr1 0).x, 0, none⟩)), (3, .pointer (some ⟨(fr1 1).x, 0, none⟩)), (5, .int .i64 1), (12, .bool true)]) [] [2, 3, 5, 12] [1, 2] (fun _ => by kernel_rfl) ?_
  intro _
  refine GS.cond (t := true) rfl rfl (fun _ => ?_) (fun hf => by cases hf)
  refine GS.seq ?_
  refine GS.rz (fun _ => [(4, .int .i64 1)]) (fun _ => []) [] [4] [] (fun _ => by kernel_rfl) ?_
  intro _
  have hy := Option.some.inj hm
  subst hy
  refine GS.ret (fn := Try.f7) [0] [.int .i64 1] [] rfl Try.func7 (by kernel_rfl) trivial (fun w' hs => ?_)
  exact ⟨(), rfl, hs.turnedG (ks := []) rfl rfl⟩

theorem w_place_Good_2 (F : Nat) {y : Unit} (hm : m_place_Good_2 F = some y) : CallG Try.prog 38 #[.string (ByteArray.mk #[102])] (X := Unit) (fun (_ : Unit) => .bool true) [] [] (fun (_ : Unit) => []) := by
  intro w hg
  rw [m_place_Good_2] at hm
  refine GS.start (S := mayT [] []) (mem := []) Try.func38 rfl Try.ntmps38 (Nat.le_of_ble_eq_true rfl) (hg.start rfl) ?_
  refine GS.conv (env' := [(0, .string (ByteArray.mk #[102]))]) rfl rfl ?_
  refine GS.seq ?_
  refine GS.rzM (fun _ => [(0, .string (ByteArray.mk #[102]))]) [] [0] [] (fun _ => by kernel_rfl) ?_
  intro _
  refine GS.seq ?_
  refine GS.seq ?_
  refine GS.rgM (fun _ => [(0, .string (ByteArray.mk #[102])), (6, .int .i64 1), (7, .int .i64 0)]) [(1, { sp := some (.int .i64 1) })] [0, 6, 7] [] (fun _ => [((.int .i64 (((ByteArray.mk #[102]).size : Nat) : Int)) : Value) = .int .i64 1]) (fun _ => by kernel_rfl) (fun _ => ⟨rfl, trivial⟩) ?_
  intro _
  refine GS.block ?_
  refine GS.loop ?_
  refine GS.seq ?_
  refine GS.rzM (fun _ => [(0, .string (ByteArray.mk #[102])), (6, .int .i64 1), (7, .int .i64 0), (8, .bool true)]) [] [0, 6, 7, 8] [] (fun _ => by kernel_rfl) ?_
  intro _
  refine GS.seq ?_
  refine GS.cond (t := true) rfl rfl (fun _ => ?_) (fun hf => by cases hf)
  refine GS.skip ?_
  refine GS.seq ?_
  refine GS.block ?_
  refine GS.seq ?_
  refine GS.rzM (fun _ => [(0, .string (ByteArray.mk #[102])), (3, .int .i64 0), (6, .int .i64 1), (7, .int .i64 0)]) [] [0, 3, 6, 7] [] (fun _ => by kernel_rfl) ?_
  intro _
  refine GS.seq ?_
  refine GS.rgM (fun _ => [(0, .string (ByteArray.mk #[102])), (4, .int .u8 102), (6, .int .i64 1), (7, .int .i64 0)]) [(2, { act := .elt 0, sp := some (.int .u8 102) })] [0, 4, 6, 7] [] (fun _ => [(0 : Int) = ((0 : Nat) : Int), 0 < (ByteArray.mk #[102]).size, ((.int .u8 ((((ByteArray.mk #[102]).data.getD 0 0).toNat : Nat) : Int)) : Value) = .int .u8 102]) (fun _ => by kernel_rfl) (fun _ => ⟨rfl, (Nat.le_of_ble_eq_true rfl), (by kernel_rfl), trivial⟩) ?_
  intro _
  refine GS.block ?_
  refine GS.seq ?_
  refine GS.seq ?_
  refine GS.rzM (fun _ => [(0, .string (ByteArray.mk #[102])), (4, .int .u8 102), (6, .int .i64 1), (7, .int .i64 0), (13, .bool false)]) [] [0, 4, 6, 7, 13] [] (fun _ => by kernel_rfl) ?_
  intro _
  refine GS.cond (t := false) rfl rfl (fun hf => by cases hf) (fun _ => ?_)
  refine GS.rzM (fun _ => [(0, .string (ByteArray.mk #[102])), (6, .int .i64 1), (7, .int .i64 0), (13, .bool false)]) [] [0, 6, 7, 13] [] (fun _ => by kernel_rfl) ?_
  intro _
  refine GS.cond (t := false) rfl rfl (fun hf => by cases hf) (fun _ => ?_)
  refine GS.skip ?_
  refine GS.inBlock ?_
  refine GS.inBlock ?_
  refine GS.rzM (fun _ => [(0, .string (ByteArray.mk #[102])), (6, .int .i64 1), (7, .int .i64 1)]) [] [0, 6, 7] [] (fun _ => by kernel_rfl) ?_
  intro _
  refine GS.inLoop ?_
  refine GS.seq ?_
  refine GS.rzM (fun _ => [(0, .string (ByteArray.mk #[102])), (6, .int .i64 1), (7, .int .i64 1), (8, .bool false)]) [] [0, 6, 7, 8] [] (fun _ => by kernel_rfl) ?_
  intro _
  refine GS.seq ?_
  refine GS.cond (t := false) rfl rfl (fun hf => by cases hf) (fun _ => ?_)
  refine GS.exit rfl ?_
  refine GS.seq ?_
  refine GS.rgM (fun _ => [(2, .bool true)]) [(1, { sp := some (.bool true) }), (4, { sp := some (.int .i64 1) })] [2] [] (fun _ => [((.bool (!((ByteArray.mk #[102]).toList == (ByteArray.mk #[]).toList))) : Value) = .bool true, ((.int .i64 (((ByteArray.mk #[102]).size : Nat) : Int)) : Value) = .int .i64 1]) (fun _ => by kernel_rfl) (fun _ => ⟨(by kernel_rfl), rfl, trivial⟩) ?_
  intro _
  have hy := Option.some.inj hm
  subst hy
  refine GS.ret (fn := Try.f38) [0] [.bool true] [] rfl Try.func38 (by kernel_rfl) trivial (fun w' hs => ?_)
  exact ⟨(), rfl, hs.turnedG (ks := []) rfl rfl⟩

theorem w_pglog_Copy_3 (F : Nat) {y : Unit} (hm : m_pglog_Copy_3 F = some y) : CallG Try.prog 20 #[.agg ((kc0)).toArray] (X := Option Addr × Nat × Option Addr × Nat × Option Addr × Nat) (fun ⟨x0, x1, x2, x3, x4, x5⟩ => .agg ((kc15 x0 x1 x2 x3 x4 x5)).toArray) [] [] (fun ⟨x0, x1, x2, x3, x4, x5⟩ => [.osl x0 x1 52 7 [], .osl x2 x3 47 5 [], .osl x4 x5 42 4 []]) := by
  intro w hg
  rw [m_pglog_Copy_3] at hm
  refine GS.start (S := mayT [] []) (mem := []) Try.func20 rfl Try.ntmps20 (Nat.le_of_ble_eq_true rfl) (hg.start rfl) ?_
  refine GS.conv (env' := [(0, .agg ((kc0)).toArray)]) rfl rfl ?_
  refine GS.seq ?_
  refine GS.rz (fun fr1 => [(1, .pointer (some ⟨(fr1 0).x, 0, none⟩)), (2, .pointer (some ⟨(fr1 1).x, 0, none⟩))]) (fun fr1 => [(1, .cells ((fr1 0).x) 28 (kc0)), (2, .cells ((fr1 1).x) 28 (kc0))]) [(0, { act := .new .var, key := some 1 }), (1, { act := .new .var, key := some 2 })] [1, 2] [1, 2] (fun fr1 => by kernel_rfl) ?_
  intro fr1
  refine GS.seq ?_
  refine GS.rg (fun fr2 => [(1, .pointer (some ⟨(fr1 0).x, 0, none⟩)), (2, .pointer (some ⟨(fr1 1).x, 0, none⟩))]) (fun fr2 => [(1, .cells ((fr1 0).x) 28 (kc13 ((fr2 2).ob) ((fr2 2).cap))), (2, .cells ((fr1 1).x) 28 (kc0)), (3, .osl ((fr2 2).ob) ((fr2 2).cap) 52 7 ([] : List (List Value)))]) [(1, { act := .load 1 0 0 [] }), (2, { act := .app none, key := some 3, spf := some (fun f => .slice (f.ob) 0 (f.cap)) }), (4, { act := .store 0 0 [], key := some 1 })] [1, 2] [1, 2, 3] (fun fr2 => [(fr1 0).x = (fr1 0).x, (none : Option Addr) = none, 0 = 0, 0 = 0, 0 = 0, ([] : List (List Value)).length * (64 + 1) ≤ 70368744177664, ((.slice ((fr2 2).ob) (0 + ([] : List (List Value)).length) ((fr2 2).cap)) : Value) = .slice ((fr2 2).ob) 0 ((fr2 2).cap), (fr1 0).x = (fr1 0).x, ((.slice ((fr2 2).ob) 0 ((fr2 2).cap)) : Value).cells.toList.all Value.oneCell' = true]) (fun fr2 => by kernel_rfl) (fun fr2 => ⟨rfl, rfl, rfl, rfl, rfl, (show 0 * (64 + 1) ≤ 70368744177664 by decide), rfl, rfl, rfl, trivial⟩) ?_
  intro fr2
  refine GS.conv (mem' := [(1, .cells ((fr1 0).x) 28 (kc13 ((fr2 2).ob) ((fr2 2).cap))), (2, .cells ((fr1 1).x) 28 (kc0)), (3, .osl ((fr2 2).ob) ((fr2 2).cap) 52 7 [])]) rfl (congrArg (fun rr : List (List Value) => ([(1, .cells ((fr1 0).x) 28 (kc13 ((fr2 2).ob) ((fr2 2).cap))), (2, .cells ((fr1 1).x) 28 (kc0)), (3, .osl ((fr2 2).ob) ((fr2 2).cap) 52 7 rr)] : List (Nat × Ent))) (show ([] : List (List Value)) = ([] : List (List Value)) from rfl)) ?_
  refine GS.seq ?_
  refine GS.rg (fun fr3 => [(1, .pointer (some ⟨(fr1 0).x, 0, none⟩)), (2, .pointer (some ⟨(fr1 1).x, 0, none⟩))]) (fun fr3 => [(1, .cells ((fr1 0).x) 28 (kc14 ((fr2 2).ob) ((fr2 2).cap) ((fr3 2).ob) ((fr3 2).cap))), (2, .cells ((fr1 1).x) 28 (kc0)), (3, .osl ((fr2 2).ob) ((fr2 2).cap) 52 7 []), (4, .osl ((fr3 2).ob) ((fr3 2).cap) 47 5 ([] : List (List Value)))]) [(1, { act := .load 1 0 0 [] }), (2, { act := .app none, key := some 4, spf := some (fun f => .slice (f.ob) 0 (f.cap)) }), (4, { act := .store 0 0 [], key := some 1 })] [1, 2] [1, 2, 3, 4] (fun fr3 => [(fr1 0).x = (fr1 0).x, (none : Option Addr) = none, 0 = 0, 0 = 0, 0 = 0, ([] : List (List Value)).length * (40 + 1) ≤ 70368744177664, ((.slice ((fr3 2).ob) (0 + ([] : List (List Value)).length) ((fr3 2).cap)) : Value) = .slice ((fr3 2).ob) 0 ((fr3 2).cap), (fr1 0).x = (fr1 0).x, ((.slice ((fr3 2).ob) 0 ((fr3 2).cap)) : Value).cells.toList.all Value.oneCell' = true]) (fun fr3 => by kernel_rfl) (fun fr3 => ⟨rfl, rfl, rfl, rfl, rfl, (show 0 * (40 + 1) ≤ 70368744177664 by decide), rfl, rfl, rfl, trivial⟩) ?_
  intro fr3
  refine GS.conv (mem' := [(1, .cells ((fr1 0).x) 28 (kc14 ((fr2 2).ob) ((fr2 2).cap) ((fr3 2).ob) ((fr3 2).cap))), (2, .cells ((fr1 1).x) 28 (kc0)), (3, .osl ((fr2 2).ob) ((fr2 2).cap) 52 7 []), (4, .osl ((fr3 2).ob) ((fr3 2).cap) 47 5 [])]) rfl (congrArg (fun rr : List (List Value) => ([(1, .cells ((fr1 0).x) 28 (kc14 ((fr2 2).ob) ((fr2 2).cap) ((fr3 2).ob) ((fr3 2).cap))), (2, .cells ((fr1 1).x) 28 (kc0)), (3, .osl ((fr2 2).ob) ((fr2 2).cap) 52 7 []), (4, .osl ((fr3 2).ob) ((fr3 2).cap) 47 5 rr)] : List (Nat × Ent))) (show ([] : List (List Value)) = ([] : List (List Value)) from rfl)) ?_
  refine GS.seq ?_
  refine GS.rg (fun fr4 => [(1, .pointer (some ⟨(fr1 0).x, 0, none⟩)), (2, .pointer (some ⟨(fr1 1).x, 0, none⟩))]) (fun fr4 => [(1, .cells ((fr1 0).x) 28 (kc15 ((fr2 2).ob) ((fr2 2).cap) ((fr3 2).ob) ((fr3 2).cap) ((fr4 2).ob) ((fr4 2).cap))), (2, .cells ((fr1 1).x) 28 (kc0)), (3, .osl ((fr2 2).ob) ((fr2 2).cap) 52 7 []), (4, .osl ((fr3 2).ob) ((fr3 2).cap) 47 5 []), (5, .osl ((fr4 2).ob) ((fr4 2).cap) 42 4 ([] : List (List Value)))]) [(1, { act := .load 1 0 0 [] }), (2, { act := .app none, key := some 5, spf := some (fun f => .slice (f.ob) 0 (f.cap)) }), (4, { act := .store 0 0 [], key := some 1 })] [1, 2] [1, 2, 3, 4, 5] (fun fr4 => [(fr1 0).x = (fr1 0).x, (none : Option Addr) = none, 0 = 0, 0 = 0, 0 = 0, ([] : List (List Value)).length * (40 + 1) ≤ 70368744177664, ((.slice ((fr4 2).ob) (0 + ([] : List (List Value)).length) ((fr4 2).cap)) : Value) = .slice ((fr4 2).ob) 0 ((fr4 2).cap), (fr1 0).x = (fr1 0).x, ((.slice ((fr4 2).ob) 0 ((fr4 2).cap)) : Value).cells.toList.all Value.oneCell' = true]) (fun fr4 => by kernel_rfl) (fun fr4 => ⟨rfl, rfl, rfl, rfl, rfl, (show 0 * (40 + 1) ≤ 70368744177664 by decide), rfl, rfl, rfl, trivial⟩) ?_
  intro fr4
  refine GS.conv (mem' := [(1, .cells ((fr1 0).x) 28 (kc15 ((fr2 2).ob) ((fr2 2).cap) ((fr3 2).ob) ((fr3 2).cap) ((fr4 2).ob) ((fr4 2).cap))), (2, .cells ((fr1 1).x) 28 (kc0)), (3, .osl ((fr2 2).ob) ((fr2 2).cap) 52 7 []), (4, .osl ((fr3 2).ob) ((fr3 2).cap) 47 5 []), (5, .osl ((fr4 2).ob) ((fr4 2).cap) 42 4 [])]) rfl (congrArg (fun rr : List (List Value) => ([(1, .cells ((fr1 0).x) 28 (kc15 ((fr2 2).ob) ((fr2 2).cap) ((fr3 2).ob) ((fr3 2).cap) ((fr4 2).ob) ((fr4 2).cap))), (2, .cells ((fr1 1).x) 28 (kc0)), (3, .osl ((fr2 2).ob) ((fr2 2).cap) 52 7 []), (4, .osl ((fr3 2).ob) ((fr3 2).cap) 47 5 []), (5, .osl ((fr4 2).ob) ((fr4 2).cap) 42 4 rr)] : List (Nat × Ent))) (show ([] : List (List Value)) = ([] : List (List Value)) from rfl)) ?_
  refine GS.seq ?_
  refine GS.rg (fun _ => [(2, .pointer (some ⟨(fr1 1).x, 0, none⟩))]) (fun _ => [(2, .cells ((fr1 1).x) 28 (kc15 ((fr2 2).ob) ((fr2 2).cap) ((fr3 2).ob) ((fr3 2).cap) ((fr4 2).ob) ((fr4 2).cap))), (3, .osl ((fr2 2).ob) ((fr2 2).cap) 52 7 []), (4, .osl ((fr3 2).ob) ((fr3 2).cap) 47 5 []), (5, .osl ((fr4 2).ob) ((fr4 2).cap) 42 4 [])]) [(0, { act := .load 1 0 0 [] }), (1, { act := .store 0 0 [], key := some 2 })] [2] [2, 3, 4, 5] (fun _ => [(fr1 0).x = (fr1 0).x, (fr1 1).x = (fr1 1).x, ((.agg ((kc15 ((fr2 2).ob) ((fr2 2).cap) ((fr3 2).ob) ((fr3 2).cap) ((fr4 2).ob) ((fr4 2).cap))).toArray) : Value).cells.toList.all Value.oneCell' = true]) (fun _ => by kernel_rfl) (fun _ => ⟨rfl, rfl, rfl, trivial⟩) ?_
  intro _
  have hy := Option.some.inj hm
  subst hy
  refine GS.ret (fn := Try.f20) [2] [.agg ((kc15 ((fr2 2).ob) ((fr2 2).cap) ((fr3 2).ob) ((fr3 2).cap) ((fr4 2).ob) ((fr4 2).cap))).toArray] [(fr1 1).x = (fr1 1).x] rfl Try.func20 (by kernel_rfl) ⟨rfl, trivial⟩ (fun w' hs => ?_)
  exact ⟨⟨(fr2 2).ob, (fr2 2).cap, (fr3 2).ob, (fr3 2).cap, (fr4 2).ob, (fr4 2).cap⟩, rfl, hs.turnedG (ks := [3, 4, 5]) rfl rfl⟩

theorem w_slices_BinarySearchFunc___api_Last_api_Last_int__2 (F : Nat) (a0_o : Option Addr) (a0_c : Nat) (a2c0b : Nat) {y : Unit} (hm : m_slices_BinarySearchFunc___api_Last_api_Last_int__2 F = some y) : CallG Try.prog 47 #[.slice a0_o 0 a0_c, .int .i64 3, .func (.func 48) #[] #[.pointer (some ⟨a2c0b, 0, none⟩)]] (X := Unit) (fun (_ : Unit) => .tuple #[.int .i64 0, .bool false]) [] [.rd a0_o 5 [], .rd (some ⟨a2c0b, 0, none⟩) 1 [[.func (.func 37) #[] #[]]]] (fun (_ : Unit) => []) := by
  intro w hg
  rw [m_slices_BinarySearchFunc___api_Last_api_Last_int__2] at hm
  refine GS.start (S := mayT [] [.rd a0_o 5 [], .rd (some ⟨a2c0b, 0, none⟩) 1 [[.func (.func 37) #[] #[]]]]) (mem := [(1, .rd a0_o 5 []), (2, .rd (some ⟨a2c0b, 0, none⟩) 1 [[.func (.func 37) #[] #[]]])]) Try.func47 rfl Try.ntmps47 (Nat.le_of_ble_eq_true rfl) (hg.start rfl) ?_
  refine GS.conv (env' := [(0, .slice a0_o 0 a0_c), (1, .int .i64 3), (2, .func (.func 48) #[] #[.pointer (some ⟨a2c0b, 0, none⟩)])]) rfl rfl ?_
  refine GS.seq ?_
  refine GS.rzM (fun _ => [(0, .slice a0_o 0 a0_c), (1, .int .i64 3), (2, .func (.func 48) #[] #[.pointer (some ⟨a2c0b, 0, none⟩)])]) [] [0, 1, 2] [1, 2] (fun _ => by kernel_rfl) ?_
  intro _
  refine GS.seq ?_
  refine GS.rzM (fun _ => [(0, .slice a0_o 0 a0_c), (1, .int .i64 3), (2, .func (.func 48) #[] #[.pointer (some ⟨a2c0b, 0, none⟩)]), (8, .int .i64 0)]) [] [0, 1, 2, 8] [1, 2] (fun _ => by kernel_rfl) ?_
  intro _
  refine GS.seq ?_
  refine GS.rzM (fun _ => [(0, .slice a0_o 0 a0_c), (1, .int .i64 3), (2, .func (.func 48) #[] #[.pointer (some ⟨a2c0b, 0, none⟩)]), (8, .int .i64 0), (9, .int .i64 0), (10, .int .i64 0)]) [] [0, 1, 2, 8, 9, 10] [1, 2] (fun _ => by kernel_rfl) ?_
  intro _
  refine GS.seq ?_
  refine GS.block ?_
  refine GS.loop ?_
  refine GS.seq ?_
  refine GS.seq ?_
  refine GS.rzM (fun _ => [(0, .slice a0_o 0 a0_c), (1, .int .i64 3), (2, .func (.func 48) #[] #[.pointer (some ⟨a2c0b, 0, none⟩)]), (8, .int .i64 0), (9, .int .i64 0), (10, .int .i64 0), (17, .bool false)]) [] [0, 1, 2, 8, 9, 10, 17] [1, 2] (fun _ => by kernel_rfl) ?_
  intro _
  refine GS.cond (t := false) rfl rfl (fun hf => by cases hf) (fun _ => ?_)
  refine GS.exit rfl ?_
  refine GS.seq ?_
  refine GS.rz (fun _ => [(6, .int .i64 0), (7, .bool false)]) (fun _ => []) [] [6, 7] [] (fun _ => by kernel_rfl) ?_
  intro _
  have hy := Option.some.inj hm
  subst hy
  refine GS.ret (fn := Try.f47) [0, 0] [.int .i64 0, .bool false] [] rfl Try.func47 (by kernel_rfl) trivial (fun w' hs => ?_)
  exact ⟨(), rfl, hs.turnedG (ks := []) rfl rfl⟩

theorem w_pglog_look_api_Last_int__2 (F : Nat) (a0_o : Option Addr) (a0_c : Nat) {y : Unit} (hm : m_pglog_look_api_Last_int__2 F = some y) : CallG Try.prog 41 #[.slice a0_o 0 a0_c, .func (.func 37) #[] #[], .int .i64 3] (X := Unit) (fun (_ : Unit) => .tuple #[.int .i64 0, .bool false]) [] [.rd a0_o 5 []] (fun (_ : Unit) => []) := by
  intro w hg
  rw [m_pglog_look_api_Last_int__2] at hm
  refine GS.start (S := mayT [] [.rd a0_o 5 []]) (mem := [(1, .rd a0_o 5 [])]) Try.func41 rfl Try.ntmps41 (Nat.le_of_ble_eq_true rfl) (hg.start rfl) ?_
  refine GS.conv (env' := [(0, .slice a0_o 0 a0_c), (1, .func (.func 37) #[] #[]), (2, .int .i64 3)]) rfl rfl ?_
  refine GS.seq ?_
  refine GS.rz (fun fr1 => [(0, .slice a0_o 0 a0_c), (2, .int .i64 3), (4, .pointer (some ⟨(fr1 0).x, 0, none⟩))]) (fun fr1 => [(1, .rd a0_o 5 []), (2, .cells ((fr1 0).x) 77 [.func (.func 37) #[] #[]])]) [(0, { act := .new .var, key := some 2 })] [0, 2, 4] [1, 2] (fun fr1 => by kernel_rfl) ?_
  intro fr1
  refine GS.seq ?_
  refine bnd_elim hm (fun y3 e4 hm => ?_)
  refine GS.rg (fun _ => [(6, .int .i64 0), (7, .bool false)]) (fun _ => []) [(3, { act := .call [1, 2] (.tuple #[.int .i64 0, .bool false]) })] [6, 7] [] (fun _ => [CallOK Try.prog 47 #[.slice a0_o 0 a0_c, .int .i64 3, .func (.func 48) #[] #[.pointer (some ⟨(fr1 0).x, 0, none⟩)]] (.tuple #[.int .i64 0, .bool false]) [some (.rd a0_o 5 []), some (.cells ((fr1 0).x) 77 [.func (.func 37) #[] #[]])]]) (fun _ => by kernel_rfl) (fun _ => ⟨(by have h1 := w_slices_BinarySearchFunc___api_Last_api_Last_int__2 F a0_o a0_c (fr1 0).x e4; exact h1.ok ⟨(.inl ⟨.rd a0_o 5 [], .head _, Cov.refl _⟩), (.inl ⟨.cells ((fr1 0).x) 77 [.func (.func 37) #[] #[]], (.tail _ (.head _)), Cov.cells_rd⟩), trivial⟩), trivial⟩) ?_
  intro _
  have hy := Option.some.inj hm
  subst hy
  refine GS.ret (fn := Try.f41) [0, 0] [.int .i64 0, .bool false] [] rfl Try.func41 (by kernel_rfl) trivial (fun w' hs => ?_)
  exact ⟨(), rfl, hs.turnedG (ks := []) rfl rfl⟩

theorem w_slices_Insert___api_Last_api_Last_ (F : Nat) (a0_o : Option Addr) (a0_c : Nat) (a2_o : Option Addr) (a2_c : Nat) (a0_ch : 0 ≤ a0_c) {y : Unit} (hm : m_slices_Insert___api_Last_api_Last_ F = some y) : CallG Try.prog 42 #[.slice a0_o 0 a0_c, .int .i64 0, .slice a2_o 1 a2_c] (X := Option Addr × Nat) (fun ⟨x0, x1⟩ => .slice x0 1 x1) [.osl a0_o a0_c 47 5 []] [.rd a2_o 5 [(kc17)]] (fun ⟨x0, x1⟩ => [.osl x0 x1 47 5 [(kc17)]]) := by
  intro w hg
  rw [m_slices_Insert___api_Last_api_Last_] at hm
  refine GS.start (S := mayT [.osl a0_o a0_c 47 5 []] [.rd a2_o 5 [(kc17)]]) (mem := [(1, .osl a0_o a0_c 47 5 []), (2, .rd a2_o 5 [(kc17)])]) Try.func42 rfl Try.ntmps42 (Nat.le_of_ble_eq_true rfl) (hg.start rfl) ?_
  refine GS.conv (env' := [(0, .slice a0_o 0 a0_c), (1, .int .i64 0), (2, .slice a2_o 1 a2_c)]) rfl rfl ?_
  refine GS.seq ?_
  refine GS.rzM (fun _ => [(0, .slice a0_o 0 a0_c), (1, .int .i64 0), (2, .slice a2_o 1 a2_c)]) [] [0, 1, 2] [1, 2] (fun _ => by kernel_rfl) ?_
  intro _
  refine GS.seq ?_
  refine GS.rgM (fun _ => [(0, .slice a0_o 0 a0_c), (1, .int .i64 0), (2, .slice a2_o 1 a2_c)]) [(2, { act := .cut 0 0 a0_c, sp := some (.slice (cutOb a0_o 0 a0_c 5) 0 (a0_c - 0)) })] [0, 1, 2] [1, 2] (fun _ => [0 = ((0 : Nat) : Int), 0 = 0, a0_c = a0_c, 0 ≤ 0, 0 ≤ a0_c, a0_c ≤ a0_c, (none : Option Operand) = none → (none : Option Operand) = none, ((.slice (if a0_c = 0 then a0_o else (a0_o).map (fun a => a.add (0 * 5))) (0 - 0) (a0_c - 0)) : Value) = .slice (cutOb a0_o 0 a0_c 5) 0 (a0_c - 0)]) (fun _ => by kernel_rfl) (fun _ => ⟨rfl, rfl, rfl, (Nat.le_of_ble_eq_true rfl), a0_ch, (Nat.le_refl _), (by intro h; first | rfl | cases h), rfl, trivial⟩) ?_
  intro _
  refine GS.seq ?_
  refine GS.rzM (fun _ => [(0, .slice a0_o 0 a0_c), (1, .int .i64 0), (2, .slice a2_o 1 a2_c), (7, .int .i64 1)]) [] [0, 1, 2, 7] [1, 2] (fun _ => by kernel_rfl) ?_
  intro _
  refine GS.seq ?_
  refine GS.seq ?_
  refine GS.rzM (fun _ => [(0, .slice a0_o 0 a0_c), (1, .int .i64 0), (2, .slice a2_o 1 a2_c), (7, .int .i64 1), (16, .bool false)]) [] [0, 1, 2, 7, 16] [1, 2] (fun _ => by kernel_rfl) ?_
  intro _
  refine GS.cond (t := false) rfl rfl (fun hf => by cases hf) (fun _ => ?_)
  refine GS.skip ?_
  refine GS.seq ?_
  refine GS.rzM (fun _ => [(0, .slice a0_o 0 a0_c), (1, .int .i64 0), (2, .slice a2_o 1 a2_c), (7, .int .i64 1), (8, .int .i64 0)]) [] [0, 1, 2, 7, 8] [1, 2] (fun _ => by kernel_rfl) ?_
  intro _
  refine GS.seq ?_
  refine GS.seq ?_
  refine GS.rzM (fun _ => [(0, .slice a0_o 0 a0_c), (1, .int .i64 0), (2, .slice a2_o 1 a2_c), (7, .int .i64 1), (8, .int .i64 0), (22, .bool true)]) [] [0, 1, 2, 7, 8, 22] [1, 2] (fun _ => by kernel_rfl) ?_
  intro _
  refine GS.cond (t := true) rfl rfl (fun _ => ?_) (fun hf => by cases hf)
  refine GS.seq ?_
  refine GS.rg (fun fr7 => [(6, .slice ((fr7 2).ob) 1 ((fr7 2).cap))]) (fun fr7 => [(1, .osl ((fr7 2).ob) ((fr7 2).cap) 47 5 (([] : List (List Value)) ++ ([(kc17)] : List (List Value))))]) [(2, { act := .app (some 2), key := some 1, spf := some (fun f => .slice (f.ob) 1 (f.cap)) })] [6] [1] (fun fr7 => [a2_o = a2_o, 1 = ([(kc17)] : List (List Value)).length, a0_o = a0_o, a0_c = a0_c, 0 = ([] : List (List Value)).length, (([] : List (List Value)).length + ([(kc17)] : List (List Value)).length) * (40 + 1) ≤ 70368744177664, ([(kc17)] : List (List Value)).flatten.all Value.oneCell' = true, ((.slice ((fr7 2).ob) (0 + ([(kc17)] : List (List Value)).length) ((fr7 2).cap)) : Value) = .slice ((fr7 2).ob) 1 ((fr7 2).cap)]) (fun fr7 => by kernel_rfl) (fun fr7 => ⟨rfl, rfl, rfl, rfl, rfl, (show (0 + 1) * (40 + 1) ≤ 70368744177664 by decide), rfl, rfl, trivial⟩) ?_
  intro fr7
  refine GS.conv (mem' := [(1, .osl ((fr7 2).ob) ((fr7 2).cap) 47 5 [(kc17)])]) rfl (congrArg (fun rr : List (List Value) => ([(1, .osl ((fr7 2).ob) ((fr7 2).cap) 47 5 rr)] : List (Nat × Ent))) (show ([] : List (List Value)) ++ ([(kc17)] : List (List Value)) = ([(kc17)] : List (List Value)) from rfl)) ?_
  have hy := Option.some.inj hm
  subst hy
  refine GS.ret (fn := Try.f42) [0] [.slice ((fr7 2).ob) 1 ((fr7 2).cap)] [] rfl Try.func42 (by kernel_rfl) trivial (fun w' hs => ?_)
  exact ⟨⟨(fr7 2).ob, (fr7 2).cap⟩, rfl, hs.turnedG (ks := [1]) rfl rfl⟩

theorem w_slices_BinarySearchFunc___api_Item_api_Item_string__2 (F : Nat) (a0_o : Option Addr) (a0_c : Nat) (a2c0b : Nat) {y : Unit} (hm : m_slices_BinarySearchFunc___api_Item_api_Item_string__2 F = some y) : CallG Try.prog 51 #[.slice a0_o 0 a0_c, .string (ByteArray.mk #[102]), .func (.func 52) #[] #[.pointer (some ⟨a2c0b, 0, none⟩)]] (X := Unit) (fun (_ : Unit) => .tuple #[.int .i64 0, .bool false]) [] [.rd a0_o 4 [], .rd (some ⟨a2c0b, 0, none⟩) 1 [[.func (.func 35) #[] #[]]]] (fun (_ : Unit) => []) := by
  intro w hg
  rw [m_slices_BinarySearchFunc___api_Item_api_Item_string__2] at hm
  refine GS.start (S := mayT [] [.rd a0_o 4 [], .rd (some ⟨a2c0b, 0, none⟩) 1 [[.func (.func 35) #[] #[]]]]) (mem := [(1, .rd a0_o 4 []), (2, .rd (some ⟨a2c0b, 0, none⟩) 1 [[.func (.func 35) #[] #[]]])]) Try.func51 rfl Try.ntmps51 (Nat.le_of_ble_eq_true rfl) (hg.start rfl) ?_
  refine GS.conv (env' := [(0, .slice a0_o 0 a0_c), (1, .string (ByteArray.mk #[102])), (2, .func (.func 52) #[] #[.pointer (some ⟨a2c0b, 0, none⟩)])]) rfl rfl ?_
  refine GS.seq ?_
  refine GS.rzM (fun _ => [(0, .slice a0_o 0 a0_c), (1, .string (ByteArray.mk #[102])), (2, .func (.func 52) #[] #[.pointer (some ⟨a2c0b, 0, none⟩)])]) [] [0, 1, 2] [1, 2] (fun _ => by kernel_rfl) ?_
  intro _
  refine GS.seq ?_
  refine GS.rzM (fun _ => [(0, .slice a0_o 0 a0_c), (1, .string (ByteArray.mk #[102])), (2, .func (.func 52) #[] #[.pointer (some ⟨a2c0b, 0, none⟩)]), (8, .int .i64 0)]) [] [0, 1, 2, 8] [1, 2] (fun _ => by kernel_rfl) ?_
  intro _
  refine GS.seq ?_
  refine GS.rzM (fun _ => [(0, .slice a0_o 0 a0_c), (1, .string (ByteArray.mk #[102])), (2, .func (.func 52) #[] #[.pointer (some ⟨a2c0b, 0, none⟩)]), (8, .int .i64 0), (9, .int .i64 0), (10, .int .i64 0)]) [] [0, 1, 2, 8, 9, 10] [1, 2] (fun _ => by kernel_rfl) ?_
  intro _
  refine GS.seq ?_
  refine GS.block ?_
  refine GS.loop ?_
  refine GS.seq ?_
  refine GS.seq ?_
  refine GS.rzM (fun _ => [(0, .slice a0_o 0 a0_c), (1, .string (ByteArray.mk #[102])), (2, .func (.func 52) #[] #[.pointer (some ⟨a2c0b, 0, none⟩)]), (8, .int .i64 0), (9, .int .i64 0), (10, .int .i64 0), (17, .bool false)]) [] [0, 1, 2, 8, 9, 10, 17] [1, 2] (fun _ => by kernel_rfl) ?_
  intro _
  refine GS.cond (t := false) rfl rfl (fun hf => by cases hf) (fun _ => ?_)
  refine GS.exit rfl ?_
  refine GS.seq ?_
  refine GS.rz (fun _ => [(6, .int .i64 0), (7, .bool false)]) (fun _ => []) [] [6, 7] [] (fun _ => by kernel_rfl) ?_
  intro _
  have hy := Option.some.inj hm
  subst hy
  refine GS.ret (fn := Try.f51) [0, 0] [.int .i64 0, .bool false] [] rfl Try.func51 (by kernel_rfl) trivial (fun w' hs => ?_)
  exact ⟨(), rfl, hs.turnedG (ks := []) rfl rfl⟩

theorem w_pglog_look_api_Item_string__2 (F : Nat) (a0_o : Option Addr) (a0_c : Nat) {y : Unit} (hm : m_pglog_look_api_Item_string__2 F = some y) : CallG Try.prog 43 #[.slice a0_o 0 a0_c, .func (.func 35) #[] #[], .string (ByteArray.mk #[102])] (X := Unit) (fun (_ : Unit) => .tuple #[.int .i64 0, .bool false]) [] [.rd a0_o 4 []] (fun (_ : Unit) => []) := by
  intro w hg
  rw [m_pglog_look_api_Item_string__2] at hm
  refine GS.start (S := mayT [] [.rd a0_o 4 []]) (mem := [(1, .rd a0_o 4 [])]) Try.func43 rfl Try.ntmps43 (Nat.le_of_ble_eq_true rfl) (hg.start rfl) ?_
  refine GS.conv (env' := [(0, .slice a0_o 0 a0_c), (1, .func (.func 35) #[] #[]), (2, .string (ByteArray.mk #[102]))]) rfl rfl ?_
  refine GS.seq ?_
  refine GS.rz (fun fr1 => [(0, .slice a0_o 0 a0_c), (2, .string (ByteArray.mk #[102])), (4, .pointer (some ⟨(fr1 0).x, 0, none⟩))]) (fun fr1 => [(1, .rd a0_o 4 []), (2, .cells ((fr1 0).x) 75 [.func (.func 35) #[] #[]])]) [(0, { act := .new .var, key := some 2 })] [0, 2, 4] [1, 2] (fun fr1 => by kernel_rfl) ?_
  intro fr1
  refine GS.seq ?_
  refine bnd_elim hm (fun y3 e4 hm => ?_)
  refine GS.rg (fun _ => [(6, .int .i64 0), (7, .bool false)]) (fun _ => []) [(3, { act := .call [1, 2] (.tuple #[.int .i64 0, .bool false]) })] [6, 7] [] (fun _ => [CallOK Try.prog 51 #[.slice a0_o 0 a0_c, .string (ByteArray.mk #[102]), .func (.func 52) #[] #[.pointer (some ⟨(fr1 0).x, 0, none⟩)]] (.tuple #[.int .i64 0, .bool false]) [some (.rd a0_o 4 []), some (.cells ((fr1 0).x) 75 [.func (.func 35) #[] #[]])]]) (fun _ => by kernel_rfl) (fun _ => ⟨(by have h1 := w_slices_BinarySearchFunc___api_Item_api_Item_string__2 F a0_o a0_c (fr1 0).x e4; exact h1.ok ⟨(.inl ⟨.rd a0_o 4 [], .head _, Cov.refl _⟩), (.inl ⟨.cells ((fr1 0).x) 75 [.func (.func 35) #[] #[]], (.tail _ (.head _)), Cov.cells_rd⟩), trivial⟩), trivial⟩) ?_
  intro _
  have hy := Option.some.inj hm
  subst hy
  refine GS.ret (fn := Try.f43) [0, 0] [.int .i64 0, .bool false] [] rfl Try.func43 (by kernel_rfl) trivial (fun w' hs => ?_)
  exact ⟨(), rfl, hs.turnedG (ks := []) rfl rfl⟩

theorem w_slices_Insert___api_Item_api_Item_ (F : Nat) (a0_o : Option Addr) (a0_c : Nat) (a2_o : Option Addr) (a2_c : Nat) (a0_ch : 0 ≤ a0_c) {y : Unit} (hm : m_slices_Insert___api_Item_api_Item_ F = some y) : CallG Try.prog 45 #[.slice a0_o 0 a0_c, .int .i64 0, .slice a2_o 1 a2_c] (X := Option Addr × Nat) (fun ⟨x0, x1⟩ => .slice x0 1 x1) [.osl a0_o a0_c 42 4 []] [.rd a2_o 4 [(kc19)]] (fun ⟨x0, x1⟩ => [.osl x0 x1 42 4 [(kc19)]]) := by
  intro w hg
  rw [m_slices_Insert___api_Item_api_Item_] at hm
  refine GS.start (S := mayT [.osl a0_o a0_c 42 4 []] [.rd a2_o 4 [(kc19)]]) (mem := [(1, .osl a0_o a0_c 42 4 []), (2, .rd a2_o 4 [(kc19)])]) Try.func45 rfl Try.ntmps45 (Nat.le_of_ble_eq_true rfl) (hg.start rfl) ?_
  refine GS.conv (env' := [(0, .slice a0_o 0 a0_c), (1, .int .i64 0), (2, .slice a2_o 1 a2_c)]) rfl rfl ?_
  refine GS.seq ?_
  refine GS.rzM (fun _ => [(0, .slice a0_o 0 a0_c), (1, .int .i64 0), (2, .slice a2_o 1 a2_c)]) [] [0, 1, 2] [1, 2] (fun _ => by kernel_rfl) ?_
  intro _
  refine GS.seq ?_
  refine GS.rgM (fun _ => [(0, .slice a0_o 0 a0_c), (1, .int .i64 0), (2, .slice a2_o 1 a2_c)]) [(2, { act := .cut 0 0 a0_c, sp := some (.slice (cutOb a0_o 0 a0_c 4) 0 (a0_c - 0)) })] [0, 1, 2] [1, 2] (fun _ => [0 = ((0 : Nat) : Int), 0 = 0, a0_c = a0_c, 0 ≤ 0, 0 ≤ a0_c, a0_c ≤ a0_c, (none : Option Operand) = none → (none : Option Operand) = none, ((.slice (if a0_c = 0 then a0_o else (a0_o).map (fun a => a.add (0 * 4))) (0 - 0) (a0_c - 0)) : Value) = .slice (cutOb a0_o 0 a0_c 4) 0 (a0_c - 0)]) (fun _ => by kernel_rfl) (fun _ => ⟨rfl, rfl, rfl, (Nat.le_of_ble_eq_true rfl), a0_ch, (Nat.le_refl _), (by intro h; first | rfl | cases h), rfl, trivial⟩) ?_
  intro _
  refine GS.seq ?_
  refine GS.rzM (fun _ => [(0, .slice a0_o 0 a0_c), (1, .int .i64 0), (2, .slice a2_o 1 a2_c), (7, .int .i64 1)]) [] [0, 1, 2, 7] [1, 2] (fun _ => by kernel_rfl) ?_
  intro _
  refine GS.seq ?_
  refine GS.seq ?_
  refine GS.rzM (fun _ => [(0, .slice a0_o 0 a0_c), (1, .int .i64 0), (2, .slice a2_o 1 a2_c), (7, .int .i64 1), (16, .bool false)]) [] [0, 1, 2, 7, 16] [1, 2] (fun _ => by kernel_rfl) ?_
  intro _
  refine GS.cond (t := false) rfl rfl (fun hf => by cases hf) (fun _ => ?_)
  refine GS.skip ?_
  refine GS.seq ?_
  refine GS.rzM (fun _ => [(0, .slice a0_o 0 a0_c), (1, .int .i64 0), (2, .slice a2_o 1 a2_c), (7, .int .i64 1), (8, .int .i64 0)]) [] [0, 1, 2, 7, 8] [1, 2] (fun _ => by kernel_rfl) ?_
  intro _
  refine GS.seq ?_
  refine GS.seq ?_
  refine GS.rzM (fun _ => [(0, .slice a0_o 0 a0_c), (1, .int .i64 0), (2, .slice a2_o 1 a2_c), (7, .int .i64 1), (8, .int .i64 0), (22, .bool true)]) [] [0, 1, 2, 7, 8, 22] [1, 2] (fun _ => by kernel_rfl) ?_
  intro _
  refine GS.cond (t := true) rfl rfl (fun _ => ?_) (fun hf => by cases hf)
  refine GS.seq ?_
  refine GS.rg (fun fr7 => [(6, .slice ((fr7 2).ob) 1 ((fr7 2).cap))]) (fun fr7 => [(1, .osl ((fr7 2).ob) ((fr7 2).cap) 42 4 (([] : List (List Value)) ++ ([(kc19)] : List (List Value))))]) [(2, { act := .app (some 2), key := some 1, spf := some (fun f => .slice (f.ob) 1 (f.cap)) })] [6] [1] (fun fr7 => [a2_o = a2_o, 1 = ([(kc19)] : List (List Value)).length, a0_o = a0_o, a0_c = a0_c, 0 = ([] : List (List Value)).length, (([] : List (List Value)).length + ([(kc19)] : List (List Value)).length) * (40 + 1) ≤ 70368744177664, ([(kc19)] : List (List Value)).flatten.all Value.oneCell' = true, ((.slice ((fr7 2).ob) (0 + ([(kc19)] : List (List Value)).length) ((fr7 2).cap)) : Value) = .slice ((fr7 2).ob) 1 ((fr7 2).cap)]) (fun fr7 => by kernel_rfl) (fun fr7 => ⟨rfl, rfl, rfl, rfl, rfl, (show (0 + 1) * (40 + 1) ≤ 70368744177664 by decide), rfl, rfl, trivial⟩) ?_
  intro fr7
  refine GS.conv (mem' := [(1, .osl ((fr7 2).ob) ((fr7 2).cap) 42 4 [(kc19)])]) rfl (congrArg (fun rr : List (List Value) => ([(1, .osl ((fr7 2).ob) ((fr7 2).cap) 42 4 rr)] : List (Nat × Ent))) (show ([] : List (List Value)) ++ ([(kc19)] : List (List Value)) = ([(kc19)] : List (List Value)) from rfl)) ?_
  have hy := Option.some.inj hm
  subst hy
  refine GS.ret (fn := Try.f45) [0] [.slice ((fr7 2).ob) 1 ((fr7 2).cap)] [] rfl Try.func45 (by kernel_rfl) trivial (fun w' hs => ?_)
  exact ⟨⟨(fr7 2).ob, (fr7 2).cap⟩, rfl, hs.turnedG (ks := [1]) rfl rfl⟩

end Go.Proofs.Ytmoaiokgbjkaaaa
