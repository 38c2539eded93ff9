/-
  CHAPTER 20: the functions do what their models say (7).
-/
import Derived.Test.YticlccnajfjdeaaW20f
set_option linter.unusedVariables false
set_option linter.unusedSimpArgs false
set_option maxRecDepth 100000
namespace Go.Proofs.Yticlccnajfjdeaa
open Go Go.RowKit Sx

theorem w_tholeref20_Done (F : Nat) (a0_Les : Int) (a0_Tail : S_api_Version) (a0_Log_o : Option Addr) (a0_Log_c : Nat) (a0_Log : List S_api_Entry) (a0_Lasts_o : Option Addr) (a0_Lasts_c : Nat) (a0_Lasts : List S_api_Last) (a0_Items_o : Option Addr) (a0_Items_c : Nat) (a0_Items : List S_api_Item) (a1_Les : Int) (a1_Tail : S_api_Version) (a1_Log_o : Option Addr) (a1_Log_c : Nat) (a1_Log : List S_api_Entry) (a1_Lasts_o : Option Addr) (a1_Lasts_c : Nat) (a1_Lasts : List S_api_Last) (a1_Items_o : Option Addr) (a1_Items_c : Nat) (a1_Items : List S_api_Item) (a2 : ByteArray) {y : List S_api_Item} (hm : m_tholeref20_Done F a0_Les a0_Tail a0_Log a0_Lasts a0_Items a1_Les a1_Tail a1_Log a1_Lasts a1_Items a2 = some y) : CallG Try.prog 19 #[.agg #[.int .i64 a0_Les, .int .i64 a0_Tail.Epoch, .int .i64 a0_Tail.N, .slice a0_Log_o a0_Log.length a0_Log_c, .slice a0_Lasts_o a0_Lasts.length a0_Lasts_c, .slice a0_Items_o a0_Items.length a0_Items_c], .agg #[.int .i64 a1_Les, .int .i64 a1_Tail.Epoch, .int .i64 a1_Tail.N, .slice a1_Log_o a1_Log.length a1_Log_c, .slice a1_Lasts_o a1_Lasts.length a1_Lasts_c, .slice a1_Items_o a1_Items.length a1_Items_c], .string a2] (X := Option Addr × Nat) (fun ⟨x0, x1⟩ => .slice x0 y.length x1) [] [r58 a0_Log_o a0_Log, r78 a0_Lasts_o a0_Lasts, r48 a0_Items_o a0_Items, r58 a1_Log_o a1_Log, r78 a1_Lasts_o a1_Lasts, r48 a1_Items_o a1_Items] (fun ⟨x0, x1⟩ => [o48 x0 x1 y]) := by
  intro w hg
  rw [m_tholeref20_Done] at hm
  refine GS.start (S := mayT [] [r58 a0_Log_o a0_Log, r78 a0_Lasts_o a0_Lasts, r48 a0_Items_o a0_Items, r58 a1_Log_o a1_Log, r78 a1_Lasts_o a1_Lasts, r48 a1_Items_o a1_Items]) (mem := [(1, r58 a0_Log_o a0_Log), (2, r78 a0_Lasts_o a0_Lasts), (3, r48 a0_Items_o a0_Items), (4, r58 a1_Log_o a1_Log), (5, r78 a1_Lasts_o a1_Lasts), (6, r48 a1_Items_o a1_Items)]) Try.func19 rfl Try.ntmps19 (Nat.le_of_ble_eq_true rfl) (hg.start rfl) ?_
  refine GS.conv (env' := [(0, .agg #[.int .i64 a0_Les, .int .i64 a0_Tail.Epoch, .int .i64 a0_Tail.N, .slice a0_Log_o a0_Log.length a0_Log_c, .slice a0_Lasts_o a0_Lasts.length a0_Lasts_c, .slice a0_Items_o a0_Items.length a0_Items_c]), (1, .agg #[.int .i64 a1_Les, .int .i64 a1_Tail.Epoch, .int .i64 a1_Tail.N, .slice a1_Log_o a1_Log.length a1_Log_c, .slice a1_Lasts_o a1_Lasts.length a1_Lasts_c, .slice a1_Items_o a1_Items.length a1_Items_c]), (2, .string a2)]) rfl rfl ?_
  refine GS.seq ?_
  refine GS.region (env' := fun fr1 => [(2, .string a2), (3, .pointer (some ⟨(fr1 0).x, 0, none⟩)), (4, .pointer (some ⟨(fr1 1).x, 0, none⟩))]) (mem' := fun fr1 => [(1, r58 a0_Log_o a0_Log), (2, r78 a0_Lasts_o a0_Lasts), (3, r48 a0_Items_o a0_Items), (4, r58 a1_Log_o a1_Log), (5, r78 a1_Lasts_o a1_Lasts), (6, r48 a1_Items_o a1_Items), (7, .cells ((fr1 0).x) 31 [.int .i64 a0_Les, .int .i64 a0_Tail.Epoch, .int .i64 a0_Tail.N, .slice a0_Log_o a0_Log.length a0_Log_c, .slice a0_Lasts_o a0_Lasts.length a0_Lasts_c, .slice a0_Items_o a0_Items.length a0_Items_c]), (8, .cells ((fr1 1).x) 31 [.int .i64 a1_Les, .int .i64 a1_Tail.Epoch, .int .i64 a1_Tail.N, .slice a1_Log_o a1_Log.length a1_Log_c, .slice a1_Lasts_o a1_Lasts.length a1_Lasts_c, .slice a1_Items_o a1_Items.length a1_Items_c])]) (RunsTo.mk [(0, { act := .new .var, key := some 7 }), (1, { act := .new .var, key := some 8 })] [2, 3, 4] [1, 2, 3, 4, 5, 6, 7, 8] (fun fr1 => []) (fun fr1 => by kernel_rfl) (fun fr1 => trivial)) ?_
  intro fr1
  refine GS.seq ?_
  refine GS.region (env' := fun _ => [(2, .string a2), (3, .pointer (some ⟨(fr1 0).x, 0, none⟩)), (4, .pointer (some ⟨(fr1 1).x, 0, none⟩)), (7, .slice none 0 0)]) (mem' := fun _ => [(1, r58 a0_Log_o a0_Log), (2, r78 a0_Lasts_o a0_Lasts), (3, r48 a0_Items_o a0_Items), (4, r58 a1_Log_o a1_Log), (5, r78 a1_Lasts_o a1_Lasts), (6, r48 a1_Items_o a1_Items), (7, .cells ((fr1 0).x) 31 [.int .i64 a0_Les, .int .i64 a0_Tail.Epoch, .int .i64 a0_Tail.N, .slice a0_Log_o a0_Log.length a0_Log_c, .slice a0_Lasts_o a0_Lasts.length a0_Lasts_c, .slice a0_Items_o a0_Items.length a0_Items_c]), (8, .cells ((fr1 1).x) 31 [.int .i64 a1_Les, .int .i64 a1_Tail.Epoch, .int .i64 a1_Tail.N, .slice a1_Log_o a1_Log.length a1_Log_c, .slice a1_Lasts_o a1_Lasts.length a1_Lasts_c, .slice a1_Items_o a1_Items.length a1_Items_c])]) (RunsTo.mk [] [2, 3, 4, 7] [1, 2, 3, 4, 5, 6, 7, 8] (fun _ => []) (fun _ => by kernel_rfl) (fun _ => trivial)) ?_
  intro _
  refine GS.seq ?_
  refine GS.seq ?_
  refine bnd_elim hm (fun y4 e5 hm => ?_)
  refine GS.open_ ?_
  refine GR.run (i := 0) 2 (env' := fun _ => [(2, .string a2), (3, .pointer (some ⟨(fr1 0).x, 0, none⟩)), (7, .slice none 0 0), (13, .slice a1_Items_o a1_Items.length a1_Items_c)]) (mem' := fun _ => [(1, r58 a0_Log_o a0_Log), (2, r78 a0_Lasts_o a0_Lasts), (3, r48 a0_Items_o a0_Items), (6, r48 a1_Items_o a1_Items), (7, .cells ((fr1 0).x) 31 [.int .i64 a0_Les, .int .i64 a0_Tail.Epoch, .int .i64 a0_Tail.N, .slice a0_Log_o a0_Log.length a0_Log_c, .slice a0_Lasts_o a0_Lasts.length a0_Lasts_c, .slice a0_Items_o a0_Items.length a0_Items_c])]) (Nat.le_of_ble_eq_true (by kernel_rfl)) (RunsTo.mk [(1, { act := .load 8 0 0 [] })] [2, 3, 7, 13] [1, 2, 3, 6, 7] (fun _ => [(fr1 1).x = (fr1 1).x]) (fun _ => by kernel_rfl) (fun _ => ⟨rfl, trivial⟩)) ?_
  intro _
  refine GR.callG (X := Option Addr × Nat) (i := 2) (g := 30) (args := #[.slice a1_Items_o a1_Items.length a1_Items_c]) (v := fun ⟨x6, x7⟩ => .slice x6 y4.length x7) (own := []) (ro := [r48 a1_Items_o a1_Items]) (es' := fun ⟨x6, x7⟩ => [o48 x6 x7 y4]) (mem' := fun ⟨x6, x7⟩ => [(1, r58 a0_Log_o a0_Log), (2, r78 a0_Lasts_o a0_Lasts), (3, r48 a0_Items_o a0_Items), (6, r48 a1_Items_o a1_Items), (7, .cells ((fr1 0).x) 31 [.int .i64 a0_Les, .int .i64 a0_Tail.Epoch, .int .i64 a0_Tail.N, .slice a0_Log_o a0_Log.length a0_Log_c, .slice a0_Lasts_o a0_Lasts.length a0_Lasts_c, .slice a0_Items_o a0_Items.length a0_Items_c]), (9, o48 x6 x7 y4)]) (env' := fun ⟨x6, x7⟩ => [(2, .string a2), (3, .pointer (some ⟨(fr1 0).x, 0, none⟩)), (7, .slice none 0 0), (14, .slice x6 y4.length x7)]) [] [9] [2, 3, 7, 14] [1, 2, 3, 6, 7, 9] false (by kernel_rfl) (by kernel_rfl) (by kernel_rfl) (by kernel_rfl) (by kernel_rfl) (fun _ => rfl) (fun _ _ => rfl) ⟨(.inl ⟨6, _, rfl, rfl, Cov.refl _, fun h => by cases h⟩), trivial⟩ (by rintro ⟨x6, x7⟩; kernel_rfl) (by rintro ⟨x6, x7⟩; kernel_rfl) (w_tholeref20_sorted F a1_Items_o a1_Items_c a1_Items e5) ?_
  rintro ⟨x6, x7⟩
  refine GR.run (i := 3) 2 (env' := fun _ => [(2, .string a2), (3, .pointer (some ⟨(fr1 0).x, 0, none⟩)), (7, .slice none 0 0), (14, .slice x6 y4.length x7), (15, .int .i64 ((y4.length : Nat) : Int)), (16, .int .i64 0)]) (mem' := fun _ => [(1, r58 a0_Log_o a0_Log), (2, r78 a0_Lasts_o a0_Lasts), (3, r48 a0_Items_o a0_Items), (7, .cells ((fr1 0).x) 31 [.int .i64 a0_Les, .int .i64 a0_Tail.Epoch, .int .i64 a0_Tail.N, .slice a0_Log_o a0_Log.length a0_Log_c, .slice a0_Lasts_o a0_Lasts.length a0_Lasts_c, .slice a0_Items_o a0_Items.length a0_Items_c]), (9, o48 x6 x7 y4)]) (Nat.le_of_ble_eq_true (by kernel_rfl)) (RunsTo.mk [] [2, 3, 7, 14, 15, 16] [1, 2, 3, 7, 9] (fun _ => []) (fun _ => by kernel_rfl) (fun _ => trivial)) ?_
  intro _
  refine GR.done (Nat.le_of_ble_eq_true (by kernel_rfl)) ?_
  refine GS.block ?_
  refine GS.loop ?_
  refine GS.know (p := y4.length ≤ x7) (fun w hw => by first | (have h := (hw.ok 9 _ rfl).1.1; rw [List.length_map] at h; exact h) | simpa using (hw.ok 9 _ rfl).1.1) (fun k9 => ?_)
  refine grd_elim hm (fun g44 hm => ?_)
  refine GS.setMem (mem' := [(1, r58 a0_Log_o a0_Log), (2, r78 a0_Lasts_o a0_Lasts), (3, r48 a0_Items_o a0_Items), (7, .cells ((fr1 0).x) 31 [.int .i64 a0_Les, .int .i64 a0_Tail.Epoch, .int .i64 a0_Tail.N, .slice a0_Log_o a0_Log.length a0_Log_c, .slice a0_Lasts_o a0_Lasts.length a0_Lasts_c, .slice a0_Items_o a0_Items.length a0_Items_c]), (9, o48 x6 x7 y4), (20001, o48 none 0 ([] : List S_api_Item))]) (fun w hw => Sat.addNil hw rfl) ?_
  refine GS.rekey (env' := [(2, .string a2), (3, .pointer (some ⟨(fr1 0).x, 0, none⟩)), (7, .slice none 0 0), (14, .slice x6 y4.length x7), (15, .int .i64 ((y4.length : Nat) : Int)), (16, .int .i64 0)]) (mem' := [(1, r58 a0_Log_o a0_Log), (2, r78 a0_Lasts_o a0_Lasts), (3, r48 a0_Items_o a0_Items), (7, .cells ((fr1 0).x) 31 [.int .i64 a0_Les, .int .i64 a0_Tail.Epoch, .int .i64 a0_Tail.N, .slice a0_Log_o a0_Log.length a0_Log_c, .slice a0_Lasts_o a0_Lasts.length a0_Lasts_c, .slice a0_Items_o a0_Items.length a0_Items_c]), (9, o48 x6 x7 y4), (20000, o48 none 0 ([] : List S_api_Item))]) [2, 3, 7, 14, 15, 16] [(1, 1), (2, 2), (3, 3), (7, 7), (9, 9), (20000, 20001)] (by kernel_rfl) (by kernel_rfl) rfl ?_
  refine loopL_elim hm (fun st67 fn68 hst69 hfn70 hm => ?_)
  refine GS.loopInv (ι := List S_api_Item × Nat × List S_api_Item × Option Addr × Nat) (I := fun ⟨rs65, v16_1, l20000_1, o20000_1, k20000_1⟩ => y4.drop v16_1 = rs65 ∧ loopL st67 fn68 rs65 v16_1 l20000_1 = some y) (μ := fun ⟨rs65, v16_1, l20000_1, o20000_1, k20000_1⟩ => rs65.length) (E := fun ⟨rs65, v16_1, l20000_1, o20000_1, k20000_1⟩ => [(2, .string a2), (3, .pointer (some ⟨(fr1 0).x, 0, none⟩)), (7, .slice o20000_1 l20000_1.length k20000_1), (14, .slice x6 y4.length x7), (15, .int .i64 ((y4.length : Nat) : Int)), (16, .int .i64 ((v16_1 : Nat) : Int))]) (M := fun ⟨rs65, v16_1, l20000_1, o20000_1, k20000_1⟩ => [(1, r58 a0_Log_o a0_Log), (2, r78 a0_Lasts_o a0_Lasts), (3, r48 a0_Items_o a0_Items), (7, .cells ((fr1 0).x) 31 [.int .i64 a0_Les, .int .i64 a0_Tail.Epoch, .int .i64 a0_Tail.N, .slice a0_Log_o a0_Log.length a0_Log_c, .slice a0_Lasts_o a0_Lasts.length a0_Lasts_c, .slice a0_Items_o a0_Items.length a0_Items_c]), (9, o48 x6 x7 y4), (20000, o48 o20000_1 k20000_1 l20000_1)]) ?_ ⟨y4, 0, ([] : List S_api_Item), none, 0⟩ ⟨List.drop_zero .., hm⟩
  rintro ⟨rs65, v16_1, l20000_1, o20000_1, k20000_1⟩ ⟨hd43, hm⟩ ih66
  cases rs65 with
  | nil =>
    replace hm := (hfn70 _ _).symm.trans hm
    try dsimp only at hm
    refine GS.seq ?_
    refine GS.region (env' := fun _ => [(2, .string a2), (3, .pointer (some ⟨(fr1 0).x, 0, none⟩)), (7, .slice o20000_1 l20000_1.length k20000_1), (14, .slice x6 y4.length x7), (15, .int .i64 ((y4.length : Nat) : Int)), (16, .int .i64 ((v16_1 : Nat) : Int)), (17, .bool (decide (((v16_1 : Nat) : Int) < ((y4.length : Nat) : Int))))]) (mem' := fun _ => [(1, r58 a0_Log_o a0_Log), (2, r78 a0_Lasts_o a0_Lasts), (3, r48 a0_Items_o a0_Items), (7, .cells ((fr1 0).x) 31 [.int .i64 a0_Les, .int .i64 a0_Tail.Epoch, .int .i64 a0_Tail.N, .slice a0_Log_o a0_Log.length a0_Log_c, .slice a0_Lasts_o a0_Lasts.length a0_Lasts_c, .slice a0_Items_o a0_Items.length a0_Items_c]), (9, o48 x6 x7 y4), (20000, o48 o20000_1 k20000_1 l20000_1)]) (RunsTo.mk [] [2, 3, 7, 14, 15, 16, 17] [1, 2, 3, 7, 9, 20000] (fun _ => []) (fun _ => by kernel_rfl) (fun _ => trivial)) ?_
    intro _
    refine GS.seq ?_
    refine GS.cond (t := decide (((v16_1 : Nat) : Int) < ((y4.length : Nat) : Int))) rfl rfl (fun h63 => absb h63 (drop_dec0 hd43)) (fun _ => ?_)
    refine GS.exit rfl ?_
    refine GS.seq ?_
    refine GS.seq ?_
    refine bnd_elim hm (fun y72 e73 hm => ?_)
    refine GS.open_ ?_
    refine GR.run (i := 0) 2 (env' := fun _ => [(2, .string a2), (7, .slice o20000_1 l20000_1.length k20000_1), (30, .slice a0_Items_o a0_Items.length a0_Items_c)]) (mem' := fun _ => [(3, r48 a0_Items_o a0_Items), (20000, o48 o20000_1 k20000_1 l20000_1)]) (Nat.le_of_ble_eq_true (by kernel_rfl)) (RunsTo.mk [(1, { act := .load 7 0 0 [] })] [2, 7, 30] [3, 20000] (fun _ => [(fr1 0).x = (fr1 0).x]) (fun _ => by kernel_rfl) (fun _ => ⟨rfl, trivial⟩)) ?_
    intro _
    refine GR.callG (X := Option Addr × Nat) (i := 2) (g := 30) (args := #[.slice a0_Items_o a0_Items.length a0_Items_c]) (v := fun ⟨x74, x75⟩ => .slice x74 y72.length x75) (own := []) (ro := [r48 a0_Items_o a0_Items]) (es' := fun ⟨x74, x75⟩ => [o48 x74 x75 y72]) (mem' := fun ⟨x74, x75⟩ => [(3, r48 a0_Items_o a0_Items), (20000, o48 o20000_1 k20000_1 l20000_1), (20001, o48 x74 x75 y72)]) (env' := fun ⟨x74, x75⟩ => [(2, .string a2), (7, .slice o20000_1 l20000_1.length k20000_1), (31, .slice x74 y72.length x75)]) [] [20001] [2, 7, 31] [3, 20000, 20001] false (by kernel_rfl) (by kernel_rfl) (by kernel_rfl) (by kernel_rfl) (by kernel_rfl) (fun _ => rfl) (fun _ _ => rfl) ⟨(.inl ⟨3, _, rfl, rfl, Cov.refl _, fun h => by cases h⟩), trivial⟩ (by rintro ⟨x74, x75⟩; kernel_rfl) (by rintro ⟨x74, x75⟩; kernel_rfl) (w_tholeref20_sorted F a0_Items_o a0_Items_c a0_Items e73) ?_
    rintro ⟨x74, x75⟩
    refine GR.run (i := 3) 2 (env' := fun _ => [(2, .string a2), (7, .slice o20000_1 l20000_1.length k20000_1), (31, .slice x74 y72.length x75), (32, .int .i64 ((y72.length : Nat) : Int)), (33, .int .i64 0)]) (mem' := fun _ => [(20000, o48 o20000_1 k20000_1 l20000_1), (20001, o48 x74 x75 y72)]) (Nat.le_of_ble_eq_true (by kernel_rfl)) (RunsTo.mk [] [2, 7, 31, 32, 33] [20000, 20001] (fun _ => []) (fun _ => by kernel_rfl) (fun _ => trivial)) ?_
    intro _
    refine GR.done (Nat.le_of_ble_eq_true (by kernel_rfl)) ?_
    refine GS.block ?_
    refine GS.loop ?_
    refine GS.know (p := l20000_1.length ≤ k20000_1) (fun w hw => by first | (have h := (hw.ok 20000 _ rfl).1.1; rw [List.length_map] at h; exact h) | simpa using (hw.ok 20000 _ rfl).1.1) (fun k77 => ?_)
    refine GS.know (p := y72.length ≤ x75) (fun w hw => by first | (have h := (hw.ok 20001 _ rfl).1.1; rw [List.length_map] at h; exact h) | simpa using (hw.ok 20001 _ rfl).1.1) (fun k78 => ?_)
    refine grd_elim hm (fun g113 hm => ?_)
    refine GS.rekey (env' := [(2, .string a2), (7, .slice o20000_1 l20000_1.length k20000_1), (31, .slice x74 y72.length x75), (32, .int .i64 ((y72.length : Nat) : Int)), (33, .int .i64 0)]) (mem' := [(20000, o48 o20000_1 k20000_1 l20000_1), (20001, o48 x74 x75 y72)]) [2, 7, 31, 32, 33] [(20000, 20000), (20001, 20001)] (by kernel_rfl) (by kernel_rfl) rfl ?_
    refine loopL_elim hm (fun st136 fn137 hst138 hfn139 hm => ?_)
    refine GS.loopInv (ι := List S_api_Item × Nat × List S_api_Item × Option Addr × Nat) (I := fun ⟨rs134, v33_1, l20000_1, o20000_1, k20000_1⟩ => y72.drop v33_1 = rs134 ∧ loopL st136 fn137 rs134 v33_1 l20000_1 = some y) (μ := fun ⟨rs134, v33_1, l20000_1, o20000_1, k20000_1⟩ => rs134.length) (E := fun ⟨rs134, v33_1, l20000_1, o20000_1, k20000_1⟩ => [(2, .string a2), (7, .slice o20000_1 l20000_1.length k20000_1), (31, .slice x74 y72.length x75), (32, .int .i64 ((y72.length : Nat) : Int)), (33, .int .i64 ((v33_1 : Nat) : Int))]) (M := fun ⟨rs134, v33_1, l20000_1, o20000_1, k20000_1⟩ => [(20000, o48 o20000_1 k20000_1 l20000_1), (20001, o48 x74 x75 y72)]) ?_ ⟨y72, 0, l20000_1, o20000_1, k20000_1⟩ ⟨List.drop_zero .., hm⟩
    rintro ⟨rs134, v33_1, l20000_1, o20000_1, k20000_1⟩ ⟨hd112, hm⟩ ih135
    cases rs134 with
    | nil =>
      replace hm := (hfn139 _ _).symm.trans hm
      try dsimp only at hm
      refine GS.seq ?_
      refine GS.region (env' := fun _ => [(2, .string a2), (7, .slice o20000_1 l20000_1.length k20000_1), (31, .slice x74 y72.length x75), (32, .int .i64 ((y72.length : Nat) : Int)), (33, .int .i64 ((v33_1 : Nat) : Int)), (34, .bool (decide (((v33_1 : Nat) : Int) < ((y72.length : Nat) : Int))))]) (mem' := fun _ => [(20000, o48 o20000_1 k20000_1 l20000_1), (20001, o48 x74 x75 y72)]) (RunsTo.mk [] [2, 7, 31, 32, 33, 34] [20000, 20001] (fun _ => []) (fun _ => by kernel_rfl) (fun _ => trivial)) ?_
      intro _
      refine GS.seq ?_
      refine GS.cond (t := decide (((v33_1 : Nat) : Int) < ((y72.length : Nat) : Int))) rfl rfl (fun h132 => absb h132 (drop_dec0 hd112)) (fun _ => ?_)
      refine GS.exit rfl ?_
      refine GS.seq ?_
      refine GS.region (env' := fun _ => [(6, .slice o20000_1 l20000_1.length k20000_1)]) (mem' := fun _ => [(20000, o48 o20000_1 k20000_1 l20000_1)]) (RunsTo.mk [] [6] [20000] (fun _ => []) (fun _ => by kernel_rfl) (fun _ => trivial)) ?_
      intro _
      have hy := Option.some.inj hm
      subst hy
      refine GS.ret (fn := Try.f19) [0] [.slice o20000_1 l20000_1.length k20000_1] [] rfl Try.func19 (by kernel_rfl) trivial (fun w' hs => ?_)
      exact ⟨⟨o20000_1, k20000_1⟩, rfl, hs.turnedG (ks := [20000]) rfl rfl⟩
    | cons x114 rs134 =>
      replace hm := (hst138 _ _ _ _).symm.trans hm
      try dsimp only at hm
      refine GS.seq ?_
      refine GS.region (env' := fun _ => [(2, .string a2), (7, .slice o20000_1 l20000_1.length k20000_1), (31, .slice x74 y72.length x75), (32, .int .i64 ((y72.length : Nat) : Int)), (33, .int .i64 ((v33_1 : Nat) : Int)), (34, .bool (decide (((v33_1 : Nat) : Int) < ((y72.length : Nat) : Int))))]) (mem' := fun _ => [(20000, o48 o20000_1 k20000_1 l20000_1), (20001, o48 x74 x75 y72)]) (RunsTo.mk [] [2, 7, 31, 32, 33, 34] [20000, 20001] (fun _ => []) (fun _ => by kernel_rfl) (fun _ => trivial)) ?_
      intro _
      refine GS.seq ?_
      refine GS.cond (t := decide (((v33_1 : Nat) : Int) < ((y72.length : Nat) : Int))) rfl rfl (fun _ => ?_) (fun h116 => absb (drop_dec hd112) h116)
      refine GS.skip ?_
      refine GS.seq ?_
      refine GS.block ?_
      refine GS.seq ?_
      refine GS.region (env' := fun fr117 => [(2, .string a2), (7, .slice o20000_1 l20000_1.length k20000_1), (11, .pointer (some ⟨(fr117 2).x, 0, none⟩)), (31, .slice x74 y72.length x75), (32, .int .i64 ((y72.length : Nat) : Int)), (33, .int .i64 ((v33_1 : Nat) : Int))]) (mem' := fun fr117 => [(20000, o48 o20000_1 k20000_1 l20000_1), (20001, o48 x74 x75 y72), (20002, .cells ((fr117 2).x) 48 [.string x114.Name, .int .i64 x114.Version.Epoch, .int .i64 x114.Version.N, .int .u32 x114.Crc])]) (RunsTo.mk [(0, { act := .idx 20001 v33_1 }), (1, { act := .load 20001 v33_1 0 [.string x114.Name, .int .i64 x114.Version.Epoch, .int .i64 x114.Version.N, .int .u32 x114.Crc] }), (2, { act := .new .var, key := some 20002 }), (3, { act := .store 0 0 [], key := some 20002 })] [2, 7, 11, 31, 32, 33] [20000, 20001, 20002] (fun fr117 => [x74 = x74, y72.length = (List.map S_api_Item.row y72).length, (((v33_1 : Nat) : Int) : Int) = ((v33_1 : Nat) : Int), v33_1 < y72.length, blk x74 = blk x74, offs x74 + v33_1 * 4 = offs x74 + (v33_1 * 4 + 0), (List.map S_api_Item.row y72)[v33_1]? = some [.string x114.Name, .int .i64 x114.Version.Epoch, .int .i64 x114.Version.N, .int .u32 x114.Crc], (fr117 2).x = (fr117 2).x, ((.agg #[.string x114.Name, .int .i64 x114.Version.Epoch, .int .i64 x114.Version.N, .int .u32 x114.Crc]) : Value).cells.toList.all Value.oneCell' = true]) (fun fr117 => by kernel_rfl) (fun fr117 => ⟨rfl, mlen S_api_Item.row y72, rfl, (drop_lt hd112), rfl, rfl, map_drop S_api_Item.row hd112, rfl, rfl, trivial⟩)) ?_
      intro fr117
      refine GS.seq ?_
      refine GS.region (env' := fun _ => [(2, .string a2), (7, .slice o20000_1 l20000_1.length k20000_1), (11, .pointer (some ⟨(fr117 2).x, 0, none⟩)), (31, .slice x74 y72.length x75), (32, .int .i64 ((y72.length : Nat) : Int)), (33, .int .i64 ((v33_1 : Nat) : Int)), (40, .bool (!(Op.bytesLess x114.Name.toList a2.toList || x114.Name.toList == a2.toList)))]) (mem' := fun _ => [(20000, o48 o20000_1 k20000_1 l20000_1), (20001, o48 x74 x75 y72), (20002, .cells ((fr117 2).x) 48 [.string x114.Name, .int .i64 x114.Version.Epoch, .int .i64 x114.Version.N, .int .u32 x114.Crc])]) (RunsTo.mk [(1, { act := .load 20002 0 0 [] })] [2, 7, 11, 31, 32, 33, 40] [20000, 20001, 20002] (fun _ => [(fr117 2).x = (fr117 2).x]) (fun _ => by kernel_rfl) (fun _ => ⟨rfl, trivial⟩)) ?_
      intro _
      refine GS.cond (t := !(Op.bytesLess x114.Name.toList a2.toList || x114.Name.toList == a2.toList)) rfl rfl (fun h119 => ?_) (fun h119 => ?_)
      · replace hm := br_t h119 hm
        refine grd_elim hm (fun g121 hm => ?_)
        refine GS.region (env' := fun fr120 => [(2, .string a2), (7, .slice ((fr120 3).ob) ((l20000_1 ++ [x114]).length) ((fr120 3).cap)), (31, .slice x74 y72.length x75), (32, .int .i64 ((y72.length : Nat) : Int)), (33, .int .i64 ((v33_1 : Nat) : Int))]) (mem' := fun fr120 => [(20000, .osl ((fr120 3).ob) ((fr120 3).cap) 48 4 ((List.map S_api_Item.row l20000_1) ++ ([[.string x114.Name, .int .i64 x114.Version.Epoch, .int .i64 x114.Version.N, .int .u32 x114.Crc]] : List (List Value)))), (20001, o48 x74 x75 y72)]) (RunsTo.mk [(1, { act := .load 20002 0 0 [] }), (2, { act := .new (.row 1 4), key := some 20003, spf := some (fun f => .slice (some (Addr.mk f.x 0 none)) ([x114].length) 1) }), (3, { act := .app (some 20003), key := some 20000, spf := some (fun f => .slice (f.ob) ((l20000_1 ++ [x114]).length) (f.cap)) })] [2, 7, 31, 32, 33] [20000, 20001] (fun fr120 => [(fr117 2).x = (fr117 2).x, ((.slice (some (Addr.mk (fr120 2).x 0 none)) 1 1) : Value) = .slice (some (Addr.mk (fr120 2).x 0 none)) ([x114].length) 1, (some (Addr.mk (fr120 2).x 0 none)) = (some (Addr.mk (fr120 2).x 0 none)), [x114].length = ([[.string x114.Name, .int .i64 x114.Version.Epoch, .int .i64 x114.Version.N, .int .u32 x114.Crc]] : List (List Value)).length, o20000_1 = o20000_1, k20000_1 = k20000_1, l20000_1.length = (List.map S_api_Item.row l20000_1).length, ((List.map S_api_Item.row l20000_1).length + ([[.string x114.Name, .int .i64 x114.Version.Epoch, .int .i64 x114.Version.N, .int .u32 x114.Crc]] : List (List Value)).length) * (40 + 1) ≤ 70368744177664, ([[.string x114.Name, .int .i64 x114.Version.Epoch, .int .i64 x114.Version.N, .int .u32 x114.Crc]] : List (List Value)).flatten.all Value.oneCell' = true, ((.slice ((fr120 3).ob) (l20000_1.length + ([[.string x114.Name, .int .i64 x114.Version.Epoch, .int .i64 x114.Version.N, .int .u32 x114.Crc]] : List (List Value)).length) ((fr120 3).cap)) : Value) = .slice ((fr120 3).ob) ((l20000_1 ++ [x114]).length) ((fr120 3).cap)]) (fun fr120 => by kernel_rfl) (fun fr120 => ⟨rfl, rfl, rfl, (by rw [show ([[.string x114.Name, .int .i64 x114.Version.Epoch, .int .i64 x114.Version.N, .int .u32 x114.Crc]] : List (List Value)) = List.map S_api_Item.row [x114] from rfl]; exact mlen S_api_Item.row [x114]), rfl, rfl, mlen S_api_Item.row l20000_1, appb g121 (mlen S_api_Item.row l20000_1).symm (by rw [show ([[.string x114.Name, .int .i64 x114.Version.Epoch, .int .i64 x114.Version.N, .int .u32 x114.Crc]] : List (List Value)) = List.map S_api_Item.row [x114] from rfl]; exact (mlen S_api_Item.row [x114]).symm), (by rw [show ([[.string x114.Name, .int .i64 x114.Version.Epoch, .int .i64 x114.Version.N, .int .u32 x114.Crc]] : List (List Value)) = List.map S_api_Item.row [x114] from (show ([[.string x114.Name, .int .i64 x114.Version.Epoch, .int .i64 x114.Version.N, .int .u32 x114.Crc]] : List (List Value)) = List.map S_api_Item.row [x114] from rfl)]; exact all_one S_api_Item.row _ (fun _ => rfl)), slen (by simp), trivial⟩)) ?_
        intro fr120
        refine GS.conv (mem' := [(20000, o48 ((fr120 3).ob) ((fr120 3).cap) (l20000_1 ++ [x114])), (20001, o48 x74 x75 y72)]) rfl (congrArg (fun rr : List (List Value) => ([(20000, .osl ((fr120 3).ob) ((fr120 3).cap) 48 4 rr), (20001, o48 x74 x75 y72)] : List (Nat × Ent))) (show (List.map S_api_Item.row l20000_1) ++ ([[.string x114.Name, .int .i64 x114.Version.Epoch, .int .i64 x114.Version.N, .int .u32 x114.Crc]] : List (List Value)) = List.map S_api_Item.row (l20000_1 ++ [x114]) from (by rw [show List.map S_api_Item.row l20000_1 = List.map S_api_Item.row l20000_1 from rfl, show ([[.string x114.Name, .int .i64 x114.Version.Epoch, .int .i64 x114.Version.N, .int .u32 x114.Crc]] : List (List Value)) = List.map S_api_Item.row [x114] from (show ([[.string x114.Name, .int .i64 x114.Version.Epoch, .int .i64 x114.Version.N, .int .u32 x114.Crc]] : List (List Value)) = List.map S_api_Item.row [x114] from rfl)]; exact mapp S_api_Item.row _ _))) ?_
        refine GS.inBlock ?_
        refine GS.region (env' := fun _ => [(2, .string a2), (7, .slice ((fr120 3).ob) ((l20000_1 ++ [x114]).length) ((fr120 3).cap)), (31, .slice x74 y72.length x75), (32, .int .i64 ((y72.length : Nat) : Int)), (33, .int .i64 ((v33_1 + 1 : Nat) : Int))]) (mem' := fun _ => [(20000, o48 ((fr120 3).ob) ((fr120 3).cap) (l20000_1 ++ [x114])), (20001, o48 x74 x75 y72)]) (RunsTo.mk [(0, { sp := some (.int .i64 ((v33_1 + 1 : Nat) : Int)) })] [2, 7, 31, 32, 33] [20000, 20001] (fun _ => [((.int .i64 (IntKind.i64.wrap (((v33_1 : Nat) : Int) + 1))) : Value) = .int .i64 ((v33_1 + 1 : Nat) : Int)]) (fun _ => by kernel_rfl) (fun _ => ⟨natw (drop_lt hd112) g113, trivial⟩)) ?_
        intro _
        refine GS.inLoop ?_
        refine GS.rekey (env' := [(2, .string a2), (7, .slice ((fr120 3).ob) ((l20000_1 ++ [x114]).length) ((fr120 3).cap)), (31, .slice x74 y72.length x75), (32, .int .i64 ((y72.length : Nat) : Int)), (33, .int .i64 ((v33_1 + 1 : Nat) : Int))]) (mem' := [(20000, o48 ((fr120 3).ob) ((fr120 3).cap) (l20000_1 ++ [x114])), (20001, o48 x74 x75 y72)]) [2, 7, 31, 32, 33] [(20000, 20000), (20001, 20001)] (by kernel_rfl) (by kernel_rfl) rfl ?_
        exact ih135 ⟨rs134, v33_1 + 1, (l20000_1 ++ [x114]), (fr120 3).ob, (fr120 3).cap⟩ ⟨drop_next hd112, hm⟩ (Nat.lt_succ_self _)
      · replace hm := br_f h119 hm
        refine GS.skip ?_
        refine GS.inBlock ?_
        refine GS.region (env' := fun _ => [(2, .string a2), (7, .slice o20000_1 l20000_1.length k20000_1), (31, .slice x74 y72.length x75), (32, .int .i64 ((y72.length : Nat) : Int)), (33, .int .i64 ((v33_1 + 1 : Nat) : Int))]) (mem' := fun _ => [(20000, o48 o20000_1 k20000_1 l20000_1), (20001, o48 x74 x75 y72)]) (RunsTo.mk [(0, { sp := some (.int .i64 ((v33_1 + 1 : Nat) : Int)) })] [2, 7, 31, 32, 33] [20000, 20001] (fun _ => [((.int .i64 (IntKind.i64.wrap (((v33_1 : Nat) : Int) + 1))) : Value) = .int .i64 ((v33_1 + 1 : Nat) : Int)]) (fun _ => by kernel_rfl) (fun _ => ⟨natw (drop_lt hd112) g113, trivial⟩)) ?_
        intro _
        refine GS.inLoop ?_
        refine GS.rekey (env' := [(2, .string a2), (7, .slice o20000_1 l20000_1.length k20000_1), (31, .slice x74 y72.length x75), (32, .int .i64 ((y72.length : Nat) : Int)), (33, .int .i64 ((v33_1 + 1 : Nat) : Int))]) (mem' := [(20000, o48 o20000_1 k20000_1 l20000_1), (20001, o48 x74 x75 y72)]) [2, 7, 31, 32, 33] [(20000, 20000), (20001, 20001)] (by kernel_rfl) (by kernel_rfl) rfl ?_
        exact ih135 ⟨rs134, v33_1 + 1, l20000_1, o20000_1, k20000_1⟩ ⟨drop_next hd112, hm⟩ (Nat.lt_succ_self _)
  | cons x45 rs65 =>
    replace hm := (hst69 _ _ _ _).symm.trans hm
    try dsimp only at hm
    refine GS.seq ?_
    refine GS.region (env' := fun _ => [(2, .string a2), (3, .pointer (some ⟨(fr1 0).x, 0, none⟩)), (7, .slice o20000_1 l20000_1.length k20000_1), (14, .slice x6 y4.length x7), (15, .int .i64 ((y4.length : Nat) : Int)), (16, .int .i64 ((v16_1 : Nat) : Int)), (17, .bool (decide (((v16_1 : Nat) : Int) < ((y4.length : Nat) : Int))))]) (mem' := fun _ => [(1, r58 a0_Log_o a0_Log), (2, r78 a0_Lasts_o a0_Lasts), (3, r48 a0_Items_o a0_Items), (7, .cells ((fr1 0).x) 31 [.int .i64 a0_Les, .int .i64 a0_Tail.Epoch, .int .i64 a0_Tail.N, .slice a0_Log_o a0_Log.length a0_Log_c, .slice a0_Lasts_o a0_Lasts.length a0_Lasts_c, .slice a0_Items_o a0_Items.length a0_Items_c]), (9, o48 x6 x7 y4), (20000, o48 o20000_1 k20000_1 l20000_1)]) (RunsTo.mk [] [2, 3, 7, 14, 15, 16, 17] [1, 2, 3, 7, 9, 20000] (fun _ => []) (fun _ => by kernel_rfl) (fun _ => trivial)) ?_
    intro _
    refine GS.seq ?_
    refine GS.cond (t := decide (((v16_1 : Nat) : Int) < ((y4.length : Nat) : Int))) rfl rfl (fun _ => ?_) (fun h47 => absb (drop_dec hd43) h47)
    refine GS.skip ?_
    refine GS.seq ?_
    refine GS.block ?_
    refine GS.seq ?_
    refine GS.region (env' := fun fr48 => [(2, .string a2), (3, .pointer (some ⟨(fr1 0).x, 0, none⟩)), (7, .slice o20000_1 l20000_1.length k20000_1), (9, .pointer (some ⟨(fr48 2).x, 0, none⟩)), (14, .slice x6 y4.length x7), (15, .int .i64 ((y4.length : Nat) : Int)), (16, .int .i64 ((v16_1 : Nat) : Int))]) (mem' := fun fr48 => [(1, r58 a0_Log_o a0_Log), (2, r78 a0_Lasts_o a0_Lasts), (3, r48 a0_Items_o a0_Items), (7, .cells ((fr1 0).x) 31 [.int .i64 a0_Les, .int .i64 a0_Tail.Epoch, .int .i64 a0_Tail.N, .slice a0_Log_o a0_Log.length a0_Log_c, .slice a0_Lasts_o a0_Lasts.length a0_Lasts_c, .slice a0_Items_o a0_Items.length a0_Items_c]), (9, o48 x6 x7 y4), (20000, o48 o20000_1 k20000_1 l20000_1), (20001, .cells ((fr48 2).x) 48 [.string x45.Name, .int .i64 x45.Version.Epoch, .int .i64 x45.Version.N, .int .u32 x45.Crc])]) (RunsTo.mk [(0, { act := .idx 9 v16_1 }), (1, { act := .load 9 v16_1 0 [.string x45.Name, .int .i64 x45.Version.Epoch, .int .i64 x45.Version.N, .int .u32 x45.Crc] }), (2, { act := .new .var, key := some 20001 }), (3, { act := .store 0 0 [], key := some 20001 })] [2, 3, 7, 9, 14, 15, 16] [1, 2, 3, 7, 9, 20000, 20001] (fun fr48 => [x6 = x6, y4.length = (List.map S_api_Item.row y4).length, (((v16_1 : Nat) : Int) : Int) = ((v16_1 : Nat) : Int), v16_1 < y4.length, blk x6 = blk x6, offs x6 + v16_1 * 4 = offs x6 + (v16_1 * 4 + 0), (List.map S_api_Item.row y4)[v16_1]? = some [.string x45.Name, .int .i64 x45.Version.Epoch, .int .i64 x45.Version.N, .int .u32 x45.Crc], (fr48 2).x = (fr48 2).x, ((.agg #[.string x45.Name, .int .i64 x45.Version.Epoch, .int .i64 x45.Version.N, .int .u32 x45.Crc]) : Value).cells.toList.all Value.oneCell' = true]) (fun fr48 => by kernel_rfl) (fun fr48 => ⟨rfl, mlen S_api_Item.row y4, rfl, (drop_lt hd43), rfl, rfl, map_drop S_api_Item.row hd43, rfl, rfl, trivial⟩)) ?_
    intro fr48
    refine GS.seq ?_
    refine GS.region (env' := fun _ => [(2, .string a2), (3, .pointer (some ⟨(fr1 0).x, 0, none⟩)), (7, .slice o20000_1 l20000_1.length k20000_1), (9, .pointer (some ⟨(fr48 2).x, 0, none⟩)), (14, .slice x6 y4.length x7), (15, .int .i64 ((y4.length : Nat) : Int)), (16, .int .i64 ((v16_1 : Nat) : Int)), (23, .bool (Op.bytesLess x45.Name.toList a2.toList || x45.Name.toList == a2.toList))]) (mem' := fun _ => [(1, r58 a0_Log_o a0_Log), (2, r78 a0_Lasts_o a0_Lasts), (3, r48 a0_Items_o a0_Items), (7, .cells ((fr1 0).x) 31 [.int .i64 a0_Les, .int .i64 a0_Tail.Epoch, .int .i64 a0_Tail.N, .slice a0_Log_o a0_Log.length a0_Log_c, .slice a0_Lasts_o a0_Lasts.length a0_Lasts_c, .slice a0_Items_o a0_Items.length a0_Items_c]), (9, o48 x6 x7 y4), (20000, o48 o20000_1 k20000_1 l20000_1), (20001, .cells ((fr48 2).x) 48 [.string x45.Name, .int .i64 x45.Version.Epoch, .int .i64 x45.Version.N, .int .u32 x45.Crc])]) (RunsTo.mk [(1, { act := .load 20001 0 0 [] })] [2, 3, 7, 9, 14, 15, 16, 23] [1, 2, 3, 7, 9, 20000, 20001] (fun _ => [(fr48 2).x = (fr48 2).x]) (fun _ => by kernel_rfl) (fun _ => ⟨rfl, trivial⟩)) ?_
    intro _
    refine GS.cond (t := Op.bytesLess x45.Name.toList a2.toList || x45.Name.toList == a2.toList) rfl rfl (fun h50 => ?_) (fun h50 => ?_)
    · replace hm := br_t h50 hm
      refine grd_elim hm (fun g52 hm => ?_)
      refine GS.region (env' := fun fr51 => [(2, .string a2), (3, .pointer (some ⟨(fr1 0).x, 0, none⟩)), (7, .slice ((fr51 3).ob) ((l20000_1 ++ [x45]).length) ((fr51 3).cap)), (14, .slice x6 y4.length x7), (15, .int .i64 ((y4.length : Nat) : Int)), (16, .int .i64 ((v16_1 : Nat) : Int))]) (mem' := fun fr51 => [(1, r58 a0_Log_o a0_Log), (2, r78 a0_Lasts_o a0_Lasts), (3, r48 a0_Items_o a0_Items), (7, .cells ((fr1 0).x) 31 [.int .i64 a0_Les, .int .i64 a0_Tail.Epoch, .int .i64 a0_Tail.N, .slice a0_Log_o a0_Log.length a0_Log_c, .slice a0_Lasts_o a0_Lasts.length a0_Lasts_c, .slice a0_Items_o a0_Items.length a0_Items_c]), (9, o48 x6 x7 y4), (20000, .osl ((fr51 3).ob) ((fr51 3).cap) 48 4 ((List.map S_api_Item.row l20000_1) ++ ([[.string x45.Name, .int .i64 x45.Version.Epoch, .int .i64 x45.Version.N, .int .u32 x45.Crc]] : List (List Value))))]) (RunsTo.mk [(1, { act := .load 20001 0 0 [] }), (2, { act := .new (.row 1 4), key := some 20002, spf := some (fun f => .slice (some (Addr.mk f.x 0 none)) ([x45].length) 1) }), (3, { act := .app (some 20002), key := some 20000, spf := some (fun f => .slice (f.ob) ((l20000_1 ++ [x45]).length) (f.cap)) })] [2, 3, 7, 14, 15, 16] [1, 2, 3, 7, 9, 20000] (fun fr51 => [(fr48 2).x = (fr48 2).x, ((.slice (some (Addr.mk (fr51 2).x 0 none)) 1 1) : Value) = .slice (some (Addr.mk (fr51 2).x 0 none)) ([x45].length) 1, (some (Addr.mk (fr51 2).x 0 none)) = (some (Addr.mk (fr51 2).x 0 none)), [x45].length = ([[.string x45.Name, .int .i64 x45.Version.Epoch, .int .i64 x45.Version.N, .int .u32 x45.Crc]] : List (List Value)).length, o20000_1 = o20000_1, k20000_1 = k20000_1, l20000_1.length = (List.map S_api_Item.row l20000_1).length, ((List.map S_api_Item.row l20000_1).length + ([[.string x45.Name, .int .i64 x45.Version.Epoch, .int .i64 x45.Version.N, .int .u32 x45.Crc]] : List (List Value)).length) * (40 + 1) ≤ 70368744177664, ([[.string x45.Name, .int .i64 x45.Version.Epoch, .int .i64 x45.Version.N, .int .u32 x45.Crc]] : List (List Value)).flatten.all Value.oneCell' = true, ((.slice ((fr51 3).ob) (l20000_1.length + ([[.string x45.Name, .int .i64 x45.Version.Epoch, .int .i64 x45.Version.N, .int .u32 x45.Crc]] : List (List Value)).length) ((fr51 3).cap)) : Value) = .slice ((fr51 3).ob) ((l20000_1 ++ [x45]).length) ((fr51 3).cap)]) (fun fr51 => by kernel_rfl) (fun fr51 => ⟨rfl, rfl, rfl, (by rw [show ([[.string x45.Name, .int .i64 x45.Version.Epoch, .int .i64 x45.Version.N, .int .u32 x45.Crc]] : List (List Value)) = List.map S_api_Item.row [x45] from rfl]; exact mlen S_api_Item.row [x45]), rfl, rfl, mlen S_api_Item.row l20000_1, appb g52 (mlen S_api_Item.row l20000_1).symm (by rw [show ([[.string x45.Name, .int .i64 x45.Version.Epoch, .int .i64 x45.Version.N, .int .u32 x45.Crc]] : List (List Value)) = List.map S_api_Item.row [x45] from rfl]; exact (mlen S_api_Item.row [x45]).symm), (by rw [show ([[.string x45.Name, .int .i64 x45.Version.Epoch, .int .i64 x45.Version.N, .int .u32 x45.Crc]] : List (List Value)) = List.map S_api_Item.row [x45] from (show ([[.string x45.Name, .int .i64 x45.Version.Epoch, .int .i64 x45.Version.N, .int .u32 x45.Crc]] : List (List Value)) = List.map S_api_Item.row [x45] from rfl)]; exact all_one S_api_Item.row _ (fun _ => rfl)), slen (by simp), trivial⟩)) ?_
      intro fr51
      refine GS.conv (mem' := [(1, r58 a0_Log_o a0_Log), (2, r78 a0_Lasts_o a0_Lasts), (3, r48 a0_Items_o a0_Items), (7, .cells ((fr1 0).x) 31 [.int .i64 a0_Les, .int .i64 a0_Tail.Epoch, .int .i64 a0_Tail.N, .slice a0_Log_o a0_Log.length a0_Log_c, .slice a0_Lasts_o a0_Lasts.length a0_Lasts_c, .slice a0_Items_o a0_Items.length a0_Items_c]), (9, o48 x6 x7 y4), (20000, o48 ((fr51 3).ob) ((fr51 3).cap) (l20000_1 ++ [x45]))]) rfl (congrArg (fun rr : List (List Value) => ([(1, r58 a0_Log_o a0_Log), (2, r78 a0_Lasts_o a0_Lasts), (3, r48 a0_Items_o a0_Items), (7, .cells ((fr1 0).x) 31 [.int .i64 a0_Les, .int .i64 a0_Tail.Epoch, .int .i64 a0_Tail.N, .slice a0_Log_o a0_Log.length a0_Log_c, .slice a0_Lasts_o a0_Lasts.length a0_Lasts_c, .slice a0_Items_o a0_Items.length a0_Items_c]), (9, o48 x6 x7 y4), (20000, .osl ((fr51 3).ob) ((fr51 3).cap) 48 4 rr)] : List (Nat × Ent))) (show (List.map S_api_Item.row l20000_1) ++ ([[.string x45.Name, .int .i64 x45.Version.Epoch, .int .i64 x45.Version.N, .int .u32 x45.Crc]] : List (List Value)) = List.map S_api_Item.row (l20000_1 ++ [x45]) from (by rw [show List.map S_api_Item.row l20000_1 = List.map S_api_Item.row l20000_1 from rfl, show ([[.string x45.Name, .int .i64 x45.Version.Epoch, .int .i64 x45.Version.N, .int .u32 x45.Crc]] : List (List Value)) = List.map S_api_Item.row [x45] from (show ([[.string x45.Name, .int .i64 x45.Version.Epoch, .int .i64 x45.Version.N, .int .u32 x45.Crc]] : List (List Value)) = List.map S_api_Item.row [x45] from rfl)]; exact mapp S_api_Item.row _ _))) ?_
      refine GS.inBlock ?_
      refine GS.region (env' := fun _ => [(2, .string a2), (3, .pointer (some ⟨(fr1 0).x, 0, none⟩)), (7, .slice ((fr51 3).ob) ((l20000_1 ++ [x45]).length) ((fr51 3).cap)), (14, .slice x6 y4.length x7), (15, .int .i64 ((y4.length : Nat) : Int)), (16, .int .i64 ((v16_1 + 1 : Nat) : Int))]) (mem' := fun _ => [(1, r58 a0_Log_o a0_Log), (2, r78 a0_Lasts_o a0_Lasts), (3, r48 a0_Items_o a0_Items), (7, .cells ((fr1 0).x) 31 [.int .i64 a0_Les, .int .i64 a0_Tail.Epoch, .int .i64 a0_Tail.N, .slice a0_Log_o a0_Log.length a0_Log_c, .slice a0_Lasts_o a0_Lasts.length a0_Lasts_c, .slice a0_Items_o a0_Items.length a0_Items_c]), (9, o48 x6 x7 y4), (20000, o48 ((fr51 3).ob) ((fr51 3).cap) (l20000_1 ++ [x45]))]) (RunsTo.mk [(0, { sp := some (.int .i64 ((v16_1 + 1 : Nat) : Int)) })] [2, 3, 7, 14, 15, 16] [1, 2, 3, 7, 9, 20000] (fun _ => [((.int .i64 (IntKind.i64.wrap (((v16_1 : Nat) : Int) + 1))) : Value) = .int .i64 ((v16_1 + 1 : Nat) : Int)]) (fun _ => by kernel_rfl) (fun _ => ⟨natw (drop_lt hd43) g44, trivial⟩)) ?_
      intro _
      refine GS.inLoop ?_
      refine GS.rekey (env' := [(2, .string a2), (3, .pointer (some ⟨(fr1 0).x, 0, none⟩)), (7, .slice ((fr51 3).ob) ((l20000_1 ++ [x45]).length) ((fr51 3).cap)), (14, .slice x6 y4.length x7), (15, .int .i64 ((y4.length : Nat) : Int)), (16, .int .i64 ((v16_1 + 1 : Nat) : Int))]) (mem' := [(1, r58 a0_Log_o a0_Log), (2, r78 a0_Lasts_o a0_Lasts), (3, r48 a0_Items_o a0_Items), (7, .cells ((fr1 0).x) 31 [.int .i64 a0_Les, .int .i64 a0_Tail.Epoch, .int .i64 a0_Tail.N, .slice a0_Log_o a0_Log.length a0_Log_c, .slice a0_Lasts_o a0_Lasts.length a0_Lasts_c, .slice a0_Items_o a0_Items.length a0_Items_c]), (9, o48 x6 x7 y4), (20000, o48 ((fr51 3).ob) ((fr51 3).cap) (l20000_1 ++ [x45]))]) [2, 3, 7, 14, 15, 16] [(1, 1), (2, 2), (3, 3), (7, 7), (9, 9), (20000, 20000)] (by kernel_rfl) (by kernel_rfl) rfl ?_
      exact ih66 ⟨rs65, v16_1 + 1, (l20000_1 ++ [x45]), (fr51 3).ob, (fr51 3).cap⟩ ⟨drop_next hd43, hm⟩ (Nat.lt_succ_self _)
    · replace hm := br_f h50 hm
      refine GS.skip ?_
      refine GS.inBlock ?_
      refine GS.region (env' := fun _ => [(2, .string a2), (3, .pointer (some ⟨(fr1 0).x, 0, none⟩)), (7, .slice o20000_1 l20000_1.length k20000_1), (14, .slice x6 y4.length x7), (15, .int .i64 ((y4.length : Nat) : Int)), (16, .int .i64 ((v16_1 + 1 : Nat) : Int))]) (mem' := fun _ => [(1, r58 a0_Log_o a0_Log), (2, r78 a0_Lasts_o a0_Lasts), (3, r48 a0_Items_o a0_Items), (7, .cells ((fr1 0).x) 31 [.int .i64 a0_Les, .int .i64 a0_Tail.Epoch, .int .i64 a0_Tail.N, .slice a0_Log_o a0_Log.length a0_Log_c, .slice a0_Lasts_o a0_Lasts.length a0_Lasts_c, .slice a0_Items_o a0_Items.length a0_Items_c]), (9, o48 x6 x7 y4), (20000, o48 o20000_1 k20000_1 l20000_1)]) (RunsTo.mk [(0, { sp := some (.int .i64 ((v16_1 + 1 : Nat) : Int)) })] [2, 3, 7, 14, 15, 16] [1, 2, 3, 7, 9, 20000] (fun _ => [((.int .i64 (IntKind.i64.wrap (((v16_1 : Nat) : Int) + 1))) : Value) = .int .i64 ((v16_1 + 1 : Nat) : Int)]) (fun _ => by kernel_rfl) (fun _ => ⟨natw (drop_lt hd43) g44, trivial⟩)) ?_
      intro _
      refine GS.inLoop ?_
      refine GS.rekey (env' := [(2, .string a2), (3, .pointer (some ⟨(fr1 0).x, 0, none⟩)), (7, .slice o20000_1 l20000_1.length k20000_1), (14, .slice x6 y4.length x7), (15, .int .i64 ((y4.length : Nat) : Int)), (16, .int .i64 ((v16_1 + 1 : Nat) : Int))]) (mem' := [(1, r58 a0_Log_o a0_Log), (2, r78 a0_Lasts_o a0_Lasts), (3, r48 a0_Items_o a0_Items), (7, .cells ((fr1 0).x) 31 [.int .i64 a0_Les, .int .i64 a0_Tail.Epoch, .int .i64 a0_Tail.N, .slice a0_Log_o a0_Log.length a0_Log_c, .slice a0_Lasts_o a0_Lasts.length a0_Lasts_c, .slice a0_Items_o a0_Items.length a0_Items_c]), (9, o48 x6 x7 y4), (20000, o48 o20000_1 k20000_1 l20000_1)]) [2, 3, 7, 14, 15, 16] [(1, 1), (2, 2), (3, 3), (7, 7), (9, 9), (20000, 20000)] (by kernel_rfl) (by kernel_rfl) rfl ?_
      exact ih66 ⟨rs65, v16_1 + 1, l20000_1, o20000_1, k20000_1⟩ ⟨drop_next hd43, hm⟩ (Nat.lt_succ_self _)

theorem w_tholelaw20_items (F : Nat) (a0_o : Option Addr) (a0_c : Nat) (a0 : List S_api_Item) (a1_o : Option Addr) (a1_c : Nat) (a1 : List S_api_Item) {y : Bool} (hm : m_tholelaw20_items F a0 a1 = some y) : CallG Try.prog 12 #[.slice a0_o a0.length a0_c, .slice a1_o a1.length a1_c] (X := Unit) (fun (_ : Unit) => .bool y) [] [r48 a0_o a0, r48 a1_o a1] (fun (_ : Unit) => []) := by
  intro w hg
  rw [m_tholelaw20_items] at hm
  refine GS.start (S := mayT [] [r48 a0_o a0, r48 a1_o a1]) (mem := [(1, r48 a0_o a0), (2, r48 a1_o a1)]) Try.func12 rfl Try.ntmps12 (Nat.le_of_ble_eq_true rfl) (hg.start rfl) ?_
  refine GS.conv (env' := [(0, .slice a0_o a0.length a0_c), (1, .slice a1_o a1.length a1_c)]) rfl rfl ?_
  refine GS.seq ?_
  refine GS.region (env' := fun _ => [(0, .slice a0_o a0.length a0_c), (1, .slice a1_o a1.length a1_c)]) (mem' := fun _ => [(1, r48 a0_o a0), (2, r48 a1_o a1)]) (RunsTo.mk [] [0, 1] [1, 2] (fun _ => []) (fun _ => by kernel_rfl) (fun _ => trivial)) ?_
  intro _
  refine GS.seq ?_
  refine GS.seq ?_
  refine GS.region (env' := fun _ => [(0, .slice a0_o a0.length a0_c), (1, .slice a1_o a1.length a1_c), (10, .bool (((a0.length : Nat) : Int) != ((a1.length : Nat) : Int)))]) (mem' := fun _ => [(1, r48 a0_o a0), (2, r48 a1_o a1)]) (RunsTo.mk [] [0, 1, 10] [1, 2] (fun _ => []) (fun _ => by kernel_rfl) (fun _ => trivial)) ?_
  intro _
  refine GS.cond (t := ((a0.length : Nat) : Int) != ((a1.length : Nat) : Int)) rfl rfl (fun h3 => ?_) (fun h3 => ?_)
  · replace hm := br_t h3 hm
    refine GS.seq ?_
    refine GS.region (env' := fun _ => [(4, .bool false)]) (mem' := fun _ => []) (RunsTo.mk [] [4] [] (fun _ => []) (fun _ => by kernel_rfl) (fun _ => trivial)) ?_
    intro _
    have hy := Option.some.inj hm
    subst hy
    refine GS.ret (fn := Try.f12) [0] [.bool false] [] rfl Try.func12 (by kernel_rfl) trivial (fun w' hs => ?_)
    exact ⟨(), rfl, hs.turnedG (ks := []) rfl rfl⟩
  · replace hm := br_f h3 hm
    refine GS.skip ?_
    refine GS.seq ?_
    refine GS.seq ?_
    refine GS.region (env' := fun _ => [(0, .slice a0_o a0.length a0_c), (1, .slice a1_o a1.length a1_c), (12, .int .i64 ((a0.length : Nat) : Int)), (13, .int .i64 0)]) (mem' := fun _ => [(1, r48 a0_o a0), (2, r48 a1_o a1)]) (RunsTo.mk [] [0, 1, 12, 13] [1, 2] (fun _ => []) (fun _ => by kernel_rfl) (fun _ => trivial)) ?_
    intro _
    refine GS.block ?_
    refine GS.loop ?_
    refine grd_elim hm (fun g26 hm => ?_)
    refine GS.rekey (env' := [(0, .slice a0_o a0.length a0_c), (1, .slice a1_o a1.length a1_c), (12, .int .i64 ((a0.length : Nat) : Int)), (13, .int .i64 0)]) (mem' := [(1, r48 a0_o a0), (2, r48 a1_o a1)]) [0, 1, 12, 13] [(1, 1), (2, 2)] (by kernel_rfl) (by kernel_rfl) rfl ?_
    refine loopL_elim hm (fun st41 fn42 hst43 hfn44 hm => ?_)
    refine GS.loopInv (ι := List S_api_Item × Nat) (I := fun ⟨rs39, v13_1⟩ => a0.drop v13_1 = rs39 ∧ loopL st41 fn42 rs39 v13_1 () = some y) (μ := fun ⟨rs39, v13_1⟩ => rs39.length) (E := fun ⟨rs39, v13_1⟩ => [(0, .slice a0_o a0.length a0_c), (1, .slice a1_o a1.length a1_c), (12, .int .i64 ((a0.length : Nat) : Int)), (13, .int .i64 ((v13_1 : Nat) : Int))]) (M := fun ⟨rs39, v13_1⟩ => [(1, r48 a0_o a0), (2, r48 a1_o a1)]) ?_ ⟨a0, 0⟩ ⟨List.drop_zero .., hm⟩
    rintro ⟨rs39, v13_1⟩ ⟨hd25, hm⟩ ih40
    cases rs39 with
    | nil =>
      replace hm := (hfn44 _ _).symm.trans hm
      try dsimp only at hm
      refine GS.seq ?_
      refine GS.region (env' := fun _ => [(0, .slice a0_o a0.length a0_c), (1, .slice a1_o a1.length a1_c), (12, .int .i64 ((a0.length : Nat) : Int)), (13, .int .i64 ((v13_1 : Nat) : Int)), (14, .bool (decide (((v13_1 : Nat) : Int) < ((a0.length : Nat) : Int))))]) (mem' := fun _ => [(1, r48 a0_o a0), (2, r48 a1_o a1)]) (RunsTo.mk [] [0, 1, 12, 13, 14] [1, 2] (fun _ => []) (fun _ => by kernel_rfl) (fun _ => trivial)) ?_
      intro _
      refine GS.seq ?_
      refine GS.cond (t := decide (((v13_1 : Nat) : Int) < ((a0.length : Nat) : Int))) rfl rfl (fun h37 => absb h37 (drop_dec0 hd25)) (fun _ => ?_)
      refine GS.exit rfl ?_
      refine GS.seq ?_
      refine GS.region (env' := fun _ => [(4, .bool true)]) (mem' := fun _ => []) (RunsTo.mk [] [4] [] (fun _ => []) (fun _ => by kernel_rfl) (fun _ => trivial)) ?_
      intro _
      have hy := Option.some.inj hm
      subst hy
      refine GS.ret (fn := Try.f12) [0] [.bool true] [] rfl Try.func12 (by kernel_rfl) trivial (fun w' hs => ?_)
      exact ⟨(), rfl, hs.turnedG (ks := []) rfl rfl⟩
    | cons x27 rs39 =>
      replace hm := (hst43 _ _ _ _).symm.trans hm
      try dsimp only at hm
      refine GS.seq ?_
      refine GS.region (env' := fun _ => [(0, .slice a0_o a0.length a0_c), (1, .slice a1_o a1.length a1_c), (12, .int .i64 ((a0.length : Nat) : Int)), (13, .int .i64 ((v13_1 : Nat) : Int)), (14, .bool (decide (((v13_1 : Nat) : Int) < ((a0.length : Nat) : Int))))]) (mem' := fun _ => [(1, r48 a0_o a0), (2, r48 a1_o a1)]) (RunsTo.mk [] [0, 1, 12, 13, 14] [1, 2] (fun _ => []) (fun _ => by kernel_rfl) (fun _ => trivial)) ?_
      intro _
      refine GS.seq ?_
      refine GS.cond (t := decide (((v13_1 : Nat) : Int) < ((a0.length : Nat) : Int))) rfl rfl (fun _ => ?_) (fun h29 => absb (drop_dec hd25) h29)
      refine GS.skip ?_
      refine GS.seq ?_
      refine GS.block ?_
      refine GS.seq ?_
      refine GS.region (env' := fun _ => [(0, .slice a0_o a0.length a0_c), (1, .slice a1_o a1.length a1_c), (5, .int .i64 ((v13_1 : Nat) : Int)), (12, .int .i64 ((a0.length : Nat) : Int)), (13, .int .i64 ((v13_1 : Nat) : Int))]) (mem' := fun _ => [(1, r48 a0_o a0), (2, r48 a1_o a1)]) (RunsTo.mk [] [0, 1, 5, 12, 13] [1, 2] (fun _ => []) (fun _ => by kernel_rfl) (fun _ => trivial)) ?_
      intro _
      refine GS.seq ?_
      refine grd_elim hm (fun g32 hm => ?_)
      refine GS.region (env' := fun _ => [(0, .slice a0_o a0.length a0_c), (1, .slice a1_o a1.length a1_c), (12, .int .i64 ((a0.length : Nat) : Int)), (13, .int .i64 ((v13_1 : Nat) : Int)), (24, .bool (!(S_api_Item.beq x27 (a1.getD v13_1 dS_api_Item))))]) (mem' := fun _ => [(1, r48 a0_o a0), (2, r48 a1_o a1)]) (RunsTo.mkd [(2, { act := .idx 1 v13_1 }), (3, { act := .load 1 v13_1 0 [.string x27.Name, .int .i64 x27.Version.Epoch, .int .i64 x27.Version.N, .int .u32 x27.Crc] }), (6, { act := .idx 2 v13_1 }), (7, { act := .load 2 v13_1 0 [.string ((a1.getD v13_1 dS_api_Item).Name), .int .i64 (((a1.getD v13_1 dS_api_Item).Version).Epoch), .int .i64 (((a1.getD v13_1 dS_api_Item).Version).N), .int .u32 ((a1.getD v13_1 dS_api_Item).Crc)] }), (8, { act := .eq })] [0, 1, 12, 13, 24] [1, 2] (fun _ => [a0_o = a0_o, a0.length = (List.map S_api_Item.row a0).length, (((v13_1 : Nat) : Int) : Int) = ((v13_1 : Nat) : Int), v13_1 < a0.length, blk a0_o = blk a0_o, offs a0_o + v13_1 * 4 = offs a0_o + (v13_1 * 4 + 0), (List.map S_api_Item.row a0)[v13_1]? = some [.string x27.Name, .int .i64 x27.Version.Epoch, .int .i64 x27.Version.N, .int .u32 x27.Crc], a1_o = a1_o, a1.length = (List.map S_api_Item.row a1).length, (((v13_1 : Nat) : Int) : Int) = ((v13_1 : Nat) : Int), v13_1 < a1.length, blk a1_o = blk a1_o, offs a1_o + v13_1 * 4 = offs a1_o + (v13_1 * 4 + 0), (List.map S_api_Item.row a1)[v13_1]? = some [.string ((a1.getD v13_1 dS_api_Item).Name), .int .i64 (((a1.getD v13_1 dS_api_Item).Version).Epoch), .int .i64 (((a1.getD v13_1 dS_api_Item).Version).N), .int .u32 ((a1.getD v13_1 dS_api_Item).Crc)]]) (by kernel_rfl) (by kernel_rfl) (fun _ => by kernel_rfl) (fun _ => ⟨rfl, mlen S_api_Item.row a0, rfl, (drop_lt hd25), rfl, rfl, map_drop S_api_Item.row hd25, rfl, mlen S_api_Item.row a1, rfl, g32, rfl, rfl, map_at S_api_Item.row dS_api_Item g32, trivial⟩)) ?_
      intro _
      refine GS.cond (t := !(S_api_Item.beq x27 (a1.getD v13_1 dS_api_Item))) rfl rfl (fun h33 => ?_) (fun h33 => ?_)
      · replace hm := br_t h33 hm
        refine GS.seq ?_
        refine GS.region (env' := fun _ => [(4, .bool false)]) (mem' := fun _ => []) (RunsTo.mk [] [4] [] (fun _ => []) (fun _ => by kernel_rfl) (fun _ => trivial)) ?_
        intro _
        have hy := Option.some.inj hm
        subst hy
        refine GS.ret (fn := Try.f12) [0] [.bool false] [] rfl Try.func12 (by kernel_rfl) trivial (fun w' hs => ?_)
        exact ⟨(), rfl, hs.turnedG (ks := []) rfl rfl⟩
      · replace hm := br_f h33 hm
        refine GS.skip ?_
        refine GS.inBlock ?_
        refine GS.region (env' := fun _ => [(0, .slice a0_o a0.length a0_c), (1, .slice a1_o a1.length a1_c), (12, .int .i64 ((a0.length : Nat) : Int)), (13, .int .i64 ((v13_1 + 1 : Nat) : Int))]) (mem' := fun _ => [(1, r48 a0_o a0), (2, r48 a1_o a1)]) (RunsTo.mk [(0, { sp := some (.int .i64 ((v13_1 + 1 : Nat) : Int)) })] [0, 1, 12, 13] [1, 2] (fun _ => [((.int .i64 (IntKind.i64.wrap (((v13_1 : Nat) : Int) + 1))) : Value) = .int .i64 ((v13_1 + 1 : Nat) : Int)]) (fun _ => by kernel_rfl) (fun _ => ⟨natw (drop_lt hd25) g26, trivial⟩)) ?_
        intro _
        refine GS.inLoop ?_
        refine GS.rekey (env' := [(0, .slice a0_o a0.length a0_c), (1, .slice a1_o a1.length a1_c), (12, .int .i64 ((a0.length : Nat) : Int)), (13, .int .i64 ((v13_1 + 1 : Nat) : Int))]) (mem' := [(1, r48 a0_o a0), (2, r48 a1_o a1)]) [0, 1, 12, 13] [(1, 1), (2, 2)] (by kernel_rfl) (by kernel_rfl) rfl ?_
        exact ih40 ⟨rs39, v13_1 + 1⟩ ⟨drop_next hd25, hm⟩ (Nat.lt_succ_self _)

theorem w_slices_Index___string_string_ (F : Nat) (a0_o : Option Addr) (a0_c : Nat) (a0 : List ByteArray) (a1 : ByteArray) {y : Int} (hm : m_slices_Index___string_string_ F a0 a1 = some y) : CallG Try.prog 48 #[.slice a0_o a0.length a0_c, .string a1] (X := Unit) (fun (_ : Unit) => .int .i64 y) [] [r9 a0_o a0] (fun (_ : Unit) => []) := by
  intro w hg
  rw [m_slices_Index___string_string_] at hm
  refine GS.start (S := mayT [] [r9 a0_o a0]) (mem := [(1, r9 a0_o a0)]) Try.func48 rfl Try.ntmps48 (Nat.le_of_ble_eq_true rfl) (hg.start rfl) ?_
  refine GS.conv (env' := [(0, .slice a0_o a0.length a0_c), (1, .string a1)]) rfl rfl ?_
  refine GS.seq ?_
  refine GS.region (env' := fun _ => [(0, .slice a0_o a0.length a0_c), (1, .string a1)]) (mem' := fun _ => [(1, r9 a0_o a0)]) (RunsTo.mk [] [0, 1] [1] (fun _ => []) (fun _ => by kernel_rfl) (fun _ => trivial)) ?_
  intro _
  refine GS.seq ?_
  refine GS.seq ?_
  refine GS.region (env' := fun _ => [(0, .slice a0_o a0.length a0_c), (1, .string a1), (7, .int .i64 ((a0.length : Nat) : Int)), (8, .int .i64 0)]) (mem' := fun _ => [(1, r9 a0_o a0)]) (RunsTo.mk [] [0, 1, 7, 8] [1] (fun _ => []) (fun _ => by kernel_rfl) (fun _ => trivial)) ?_
  intro _
  refine GS.block ?_
  refine GS.loop ?_
  refine grd_elim hm (fun g21 hm => ?_)
  refine GS.rekey (env' := [(0, .slice a0_o a0.length a0_c), (1, .string a1), (7, .int .i64 ((a0.length : Nat) : Int)), (8, .int .i64 0)]) (mem' := [(1, r9 a0_o a0)]) [0, 1, 7, 8] [(1, 1)] (by kernel_rfl) (by kernel_rfl) rfl ?_
  refine loopL_elim hm (fun st35 fn36 hst37 hfn38 hm => ?_)
  refine GS.loopInv (ι := List ByteArray × Nat) (I := fun ⟨rs33, v8_1⟩ => a0.drop v8_1 = rs33 ∧ loopL st35 fn36 rs33 v8_1 () = some y) (μ := fun ⟨rs33, v8_1⟩ => rs33.length) (E := fun ⟨rs33, v8_1⟩ => [(0, .slice a0_o a0.length a0_c), (1, .string a1), (7, .int .i64 ((a0.length : Nat) : Int)), (8, .int .i64 ((v8_1 : Nat) : Int))]) (M := fun ⟨rs33, v8_1⟩ => [(1, r9 a0_o a0)]) ?_ ⟨a0, 0⟩ ⟨List.drop_zero .., hm⟩
  rintro ⟨rs33, v8_1⟩ ⟨hd20, hm⟩ ih34
  cases rs33 with
  | nil =>
    replace hm := (hfn38 _ _).symm.trans hm
    try dsimp only at hm
    refine GS.seq ?_
    refine GS.region (env' := fun _ => [(0, .slice a0_o a0.length a0_c), (1, .string a1), (7, .int .i64 ((a0.length : Nat) : Int)), (8, .int .i64 ((v8_1 : Nat) : Int)), (9, .bool (decide (((v8_1 : Nat) : Int) < ((a0.length : Nat) : Int))))]) (mem' := fun _ => [(1, r9 a0_o a0)]) (RunsTo.mk [] [0, 1, 7, 8, 9] [1] (fun _ => []) (fun _ => by kernel_rfl) (fun _ => trivial)) ?_
    intro _
    refine GS.seq ?_
    refine GS.cond (t := decide (((v8_1 : Nat) : Int) < ((a0.length : Nat) : Int))) rfl rfl (fun h31 => absb h31 (drop_dec0 hd20)) (fun _ => ?_)
    refine GS.exit rfl ?_
    refine GS.seq ?_
    refine GS.region (env' := fun _ => [(4, .int .i64 (-1))]) (mem' := fun _ => []) (RunsTo.mk [] [4] [] (fun _ => []) (fun _ => by kernel_rfl) (fun _ => trivial)) ?_
    intro _
    have hy := Option.some.inj hm
    subst hy
    refine GS.ret (fn := Try.f48) [0] [.int .i64 (-1)] [] rfl Try.func48 (by kernel_rfl) trivial (fun w' hs => ?_)
    exact ⟨(), rfl, hs.turnedG (ks := []) rfl rfl⟩
  | cons x22 rs33 =>
    replace hm := (hst37 _ _ _ _).symm.trans hm
    try dsimp only at hm
    refine GS.seq ?_
    refine GS.region (env' := fun _ => [(0, .slice a0_o a0.length a0_c), (1, .string a1), (7, .int .i64 ((a0.length : Nat) : Int)), (8, .int .i64 ((v8_1 : Nat) : Int)), (9, .bool (decide (((v8_1 : Nat) : Int) < ((a0.length : Nat) : Int))))]) (mem' := fun _ => [(1, r9 a0_o a0)]) (RunsTo.mk [] [0, 1, 7, 8, 9] [1] (fun _ => []) (fun _ => by kernel_rfl) (fun _ => trivial)) ?_
    intro _
    refine GS.seq ?_
    refine GS.cond (t := decide (((v8_1 : Nat) : Int) < ((a0.length : Nat) : Int))) rfl rfl (fun _ => ?_) (fun h24 => absb (drop_dec hd20) h24)
    refine GS.skip ?_
    refine GS.seq ?_
    refine GS.block ?_
    refine GS.seq ?_
    refine GS.region (env' := fun _ => [(0, .slice a0_o a0.length a0_c), (1, .string a1), (5, .int .i64 ((v8_1 : Nat) : Int)), (7, .int .i64 ((a0.length : Nat) : Int)), (8, .int .i64 ((v8_1 : Nat) : Int))]) (mem' := fun _ => [(1, r9 a0_o a0)]) (RunsTo.mk [] [0, 1, 5, 7, 8] [1] (fun _ => []) (fun _ => by kernel_rfl) (fun _ => trivial)) ?_
    intro _
    refine GS.seq ?_
    refine GS.region (env' := fun _ => [(0, .slice a0_o a0.length a0_c), (1, .string a1), (5, .int .i64 ((v8_1 : Nat) : Int)), (7, .int .i64 ((a0.length : Nat) : Int)), (8, .int .i64 ((v8_1 : Nat) : Int)), (16, .bool (a1.toList == x22.toList))]) (mem' := fun _ => [(1, r9 a0_o a0)]) (RunsTo.mk [(3, { act := .idx 1 v8_1 }), (4, { act := .load 1 v8_1 0 [.string x22] })] [0, 1, 5, 7, 8, 16] [1] (fun _ => [a0_o = a0_o, a0.length = (List.map rS a0).length, (((v8_1 : Nat) : Int) : Int) = ((v8_1 : Nat) : Int), v8_1 < a0.length, blk a0_o = blk a0_o, offs a0_o + v8_1 * 1 = offs a0_o + (v8_1 * 1 + 0), (List.map rS a0)[v8_1]? = some [.string x22]]) (fun _ => by kernel_rfl) (fun _ => ⟨rfl, mlen rS a0, rfl, (drop_lt hd20), rfl, rfl, map_drop rS hd20, trivial⟩)) ?_
    intro _
    refine GS.cond (t := a1.toList == x22.toList) rfl rfl (fun h27 => ?_) (fun h27 => ?_)
    · replace hm := br_t h27 hm
      refine GS.seq ?_
      refine GS.region (env' := fun _ => [(4, .int .i64 ((v8_1 : Nat) : Int))]) (mem' := fun _ => []) (RunsTo.mk [] [4] [] (fun _ => []) (fun _ => by kernel_rfl) (fun _ => trivial)) ?_
      intro _
      have hy := Option.some.inj hm
      subst hy
      refine GS.ret (fn := Try.f48) [0] [.int .i64 ((v8_1 : Nat) : Int)] [] rfl Try.func48 (by kernel_rfl) trivial (fun w' hs => ?_)
      exact ⟨(), rfl, hs.turnedG (ks := []) rfl rfl⟩
    · replace hm := br_f h27 hm
      refine GS.skip ?_
      refine GS.inBlock ?_
      refine GS.region (env' := fun _ => [(0, .slice a0_o a0.length a0_c), (1, .string a1), (7, .int .i64 ((a0.length : Nat) : Int)), (8, .int .i64 ((v8_1 + 1 : Nat) : Int))]) (mem' := fun _ => [(1, r9 a0_o a0)]) (RunsTo.mk [(0, { sp := some (.int .i64 ((v8_1 + 1 : Nat) : Int)) })] [0, 1, 7, 8] [1] (fun _ => [((.int .i64 (IntKind.i64.wrap (((v8_1 : Nat) : Int) + 1))) : Value) = .int .i64 ((v8_1 + 1 : Nat) : Int)]) (fun _ => by kernel_rfl) (fun _ => ⟨natw (drop_lt hd20) g21, trivial⟩)) ?_
      intro _
      refine GS.inLoop ?_
      refine GS.rekey (env' := [(0, .slice a0_o a0.length a0_c), (1, .string a1), (7, .int .i64 ((a0.length : Nat) : Int)), (8, .int .i64 ((v8_1 + 1 : Nat) : Int))]) (mem' := [(1, r9 a0_o a0)]) [0, 1, 7, 8] [(1, 1)] (by kernel_rfl) (by kernel_rfl) rfl ?_
      exact ih34 ⟨rs33, v8_1 + 1⟩ ⟨drop_next hd20, hm⟩ (Nat.lt_succ_self _)

theorem w_slices_Contains___string_string_ (F : Nat) (a0_o : Option Addr) (a0_c : Nat) (a0 : List ByteArray) (a1 : ByteArray) {y : Bool} (hm : m_slices_Contains___string_string_ F a0 a1 = some y) : CallG Try.prog 38 #[.slice a0_o a0.length a0_c, .string a1] (X := Unit) (fun (_ : Unit) => .bool y) [] [r9 a0_o a0] (fun (_ : Unit) => []) := by
  intro w hg
  rw [m_slices_Contains___string_string_] at hm
  refine GS.start (S := mayT [] [r9 a0_o a0]) (mem := [(1, r9 a0_o a0)]) Try.func38 rfl Try.ntmps38 (Nat.le_of_ble_eq_true rfl) (hg.start rfl) ?_
  refine GS.conv (env' := [(0, .slice a0_o a0.length a0_c), (1, .string a1)]) rfl rfl ?_
  refine GS.seq ?_
  refine GS.region (env' := fun _ => [(0, .slice a0_o a0.length a0_c), (1, .string a1)]) (mem' := fun _ => [(1, r9 a0_o a0)]) (RunsTo.mk [] [0, 1] [1] (fun _ => []) (fun _ => by kernel_rfl) (fun _ => trivial)) ?_
  intro _
  refine GS.seq ?_
  refine bnd_elim hm (fun y3 e4 hm => ?_)
  refine GS.region (env' := fun _ => [(4, .bool (decide (y3 ≥ 0)))]) (mem' := fun _ => []) (RunsTo.mk [(2, { act := .call [1] (.int .i64 y3) })] [4] [] (fun _ => [CallOK Try.prog 48 #[.slice a0_o a0.length a0_c, .string a1] (.int .i64 y3) [some (r9 a0_o a0)]]) (fun _ => by kernel_rfl) (fun _ => ⟨(w_slices_Index___string_string_ F a0_o a0_c a0 a1 e4).ok ⟨(.inl ⟨r9 a0_o a0, .head _, Cov.refl _⟩), trivial⟩, trivial⟩)) ?_
  intro _
  have hy := Option.some.inj hm
  subst hy
  refine GS.ret (fn := Try.f38) [0] [.bool (decide (y3 ≥ 0))] [] rfl Try.func38 (by kernel_rfl) trivial (fun w' hs => ?_)
  exact ⟨(), rfl, hs.turnedG (ks := []) rfl rfl⟩

theorem w_backfill_Apply_1_1 (F : Nat) (a0 : S_api_Item) (a1b : Nat) (a1 : S_api_Item) {y : Bool} (hm : m_backfill_Apply_1_1 F a0 a1 = some y) : CallG Try.prog 37 #[.agg #[.string a0.Name, .int .i64 a0.Version.Epoch, .int .i64 a0.Version.N, .int .u32 a0.Crc], .pointer (some ⟨a1b, 0, none⟩)] (X := Unit) (fun (_ : Unit) => .bool y) [] [.rd (some ⟨a1b, 0, none⟩) 4 ([[.string a1.Name, .int .i64 a1.Version.Epoch, .int .i64 a1.Version.N, .int .u32 a1.Crc]] : List (List Value))] (fun (_ : Unit) => []) := by
  intro w hg
  rw [m_backfill_Apply_1_1] at hm
  refine GS.start (S := mayT [] [.rd (some ⟨a1b, 0, none⟩) 4 ([[.string a1.Name, .int .i64 a1.Version.Epoch, .int .i64 a1.Version.N, .int .u32 a1.Crc]] : List (List Value))]) (mem := [(1, .rd (some ⟨a1b, 0, none⟩) 4 ([[.string a1.Name, .int .i64 a1.Version.Epoch, .int .i64 a1.Version.N, .int .u32 a1.Crc]] : List (List Value)))]) Try.func37 rfl Try.ntmps37 (Nat.le_of_ble_eq_true rfl) (hg.start rfl) ?_
  refine GS.conv (env' := [(0, .agg #[.string a0.Name, .int .i64 a0.Version.Epoch, .int .i64 a0.Version.N, .int .u32 a0.Crc]), (1, .pointer (some ⟨a1b, 0, none⟩))]) rfl rfl ?_
  refine GS.seq ?_
  refine GS.region (env' := fun fr1 => [(1, .pointer (some ⟨a1b, 0, none⟩)), (2, .pointer (some ⟨(fr1 0).x, 0, none⟩))]) (mem' := fun fr1 => [(1, .rd (some ⟨a1b, 0, none⟩) 4 ([[.string a1.Name, .int .i64 a1.Version.Epoch, .int .i64 a1.Version.N, .int .u32 a1.Crc]] : List (List Value))), (2, .cells ((fr1 0).x) 48 [.string a0.Name, .int .i64 a0.Version.Epoch, .int .i64 a0.Version.N, .int .u32 a0.Crc])]) (RunsTo.mk [(0, { act := .new .var, key := some 2 })] [1, 2] [1, 2] (fun fr1 => []) (fun fr1 => by kernel_rfl) (fun fr1 => trivial)) ?_
  intro fr1
  refine GS.seq ?_
  refine GS.region (env' := fun _ => [(3, .bool (a0.Name.toList == a1.Name.toList))]) (mem' := fun _ => []) (RunsTo.mk [(1, { act := .load 2 0 0 [] }), (3, { act := .load 1 0 0 [.string a1.Name, .int .i64 a1.Version.Epoch, .int .i64 a1.Version.N, .int .u32 a1.Crc] })] [3] [] (fun _ => [(fr1 0).x = (fr1 0).x, a1b = blk (some ⟨a1b, 0, none⟩), 0 = offs (some ⟨a1b, 0, none⟩) + (0 * 4 + 0), ([[.string a1.Name, .int .i64 a1.Version.Epoch, .int .i64 a1.Version.N, .int .u32 a1.Crc]] : List (List Value))[0]? = some [.string a1.Name, .int .i64 a1.Version.Epoch, .int .i64 a1.Version.N, .int .u32 a1.Crc]]) (fun _ => by kernel_rfl) (fun _ => ⟨rfl, rfl, rfl, rfl, trivial⟩)) ?_
  intro _
  have hy := Option.some.inj hm
  subst hy
  refine GS.ret (fn := Try.f37) [0] [.bool (a0.Name.toList == a1.Name.toList)] [] rfl Try.func37 (by kernel_rfl) trivial (fun w' hs => ?_)
  exact ⟨(), rfl, hs.turnedG (ks := []) rfl rfl⟩

theorem w_slices_IndexFunc___api_Item_api_Item_ (F : Nat) (a0_o : Option Addr) (a0_c : Nat) (a0 : List S_api_Item) (a1c0b : Nat) (a1c0 : S_api_Item) {y : Int} (hm : m_slices_IndexFunc___api_Item_api_Item_ F a0 a1c0 = some y) : CallG Try.prog 36 #[.slice a0_o a0.length a0_c, .func (.func 37) #[] #[.pointer (some ⟨a1c0b, 0, none⟩)]] (X := Unit) (fun (_ : Unit) => .int .i64 y) [] [r48 a0_o a0, .rd (some ⟨a1c0b, 0, none⟩) 4 ([[.string a1c0.Name, .int .i64 a1c0.Version.Epoch, .int .i64 a1c0.Version.N, .int .u32 a1c0.Crc]] : List (List Value))] (fun (_ : Unit) => []) := by
  intro w hg
  rw [m_slices_IndexFunc___api_Item_api_Item_] at hm
  refine GS.start (S := mayT [] [r48 a0_o a0, .rd (some ⟨a1c0b, 0, none⟩) 4 ([[.string a1c0.Name, .int .i64 a1c0.Version.Epoch, .int .i64 a1c0.Version.N, .int .u32 a1c0.Crc]] : List (List Value))]) (mem := [(1, r48 a0_o a0), (2, .rd (some ⟨a1c0b, 0, none⟩) 4 ([[.string a1c0.Name, .int .i64 a1c0.Version.Epoch, .int .i64 a1c0.Version.N, .int .u32 a1c0.Crc]] : List (List Value)))]) Try.func36 rfl Try.ntmps36 (Nat.le_of_ble_eq_true rfl) (hg.start rfl) ?_
  refine GS.conv (env' := [(0, .slice a0_o a0.length a0_c), (1, .func (.func 37) #[] #[.pointer (some ⟨a1c0b, 0, none⟩)])]) rfl rfl ?_
  refine GS.seq ?_
  refine GS.region (env' := fun _ => [(0, .slice a0_o a0.length a0_c), (1, .func (.func 37) #[] #[.pointer (some ⟨a1c0b, 0, none⟩)])]) (mem' := fun _ => [(1, r48 a0_o a0), (2, .rd (some ⟨a1c0b, 0, none⟩) 4 ([[.string a1c0.Name, .int .i64 a1c0.Version.Epoch, .int .i64 a1c0.Version.N, .int .u32 a1c0.Crc]] : List (List Value)))]) (RunsTo.mk [] [0, 1] [1, 2] (fun _ => []) (fun _ => by kernel_rfl) (fun _ => trivial)) ?_
  intro _
  refine GS.seq ?_
  refine GS.seq ?_
  refine GS.region (env' := fun _ => [(0, .slice a0_o a0.length a0_c), (1, .func (.func 37) #[] #[.pointer (some ⟨a1c0b, 0, none⟩)]), (7, .int .i64 ((a0.length : Nat) : Int)), (8, .int .i64 0)]) (mem' := fun _ => [(1, r48 a0_o a0), (2, .rd (some ⟨a1c0b, 0, none⟩) 4 ([[.string a1c0.Name, .int .i64 a1c0.Version.Epoch, .int .i64 a1c0.Version.N, .int .u32 a1c0.Crc]] : List (List Value)))]) (RunsTo.mk [] [0, 1, 7, 8] [1, 2] (fun _ => []) (fun _ => by kernel_rfl) (fun _ => trivial)) ?_
  intro _
  refine GS.block ?_
  refine GS.loop ?_
  refine grd_elim hm (fun g25 hm => ?_)
  refine GS.rekey (env' := [(0, .slice a0_o a0.length a0_c), (1, .func (.func 37) #[] #[.pointer (some ⟨a1c0b, 0, none⟩)]), (7, .int .i64 ((a0.length : Nat) : Int)), (8, .int .i64 0)]) (mem' := [(1, r48 a0_o a0), (2, .rd (some ⟨a1c0b, 0, none⟩) 4 ([[.string a1c0.Name, .int .i64 a1c0.Version.Epoch, .int .i64 a1c0.Version.N, .int .u32 a1c0.Crc]] : List (List Value)))]) [0, 1, 7, 8] [(1, 1), (2, 2)] (by kernel_rfl) (by kernel_rfl) rfl ?_
  refine loopL_elim hm (fun st41 fn42 hst43 hfn44 hm => ?_)
  refine GS.loopInv (ι := List S_api_Item × Nat) (I := fun ⟨rs39, v8_1⟩ => a0.drop v8_1 = rs39 ∧ loopL st41 fn42 rs39 v8_1 () = some y) (μ := fun ⟨rs39, v8_1⟩ => rs39.length) (E := fun ⟨rs39, v8_1⟩ => [(0, .slice a0_o a0.length a0_c), (1, .func (.func 37) #[] #[.pointer (some ⟨a1c0b, 0, none⟩)]), (7, .int .i64 ((a0.length : Nat) : Int)), (8, .int .i64 ((v8_1 : Nat) : Int))]) (M := fun ⟨rs39, v8_1⟩ => [(1, r48 a0_o a0), (2, .rd (some ⟨a1c0b, 0, none⟩) 4 ([[.string a1c0.Name, .int .i64 a1c0.Version.Epoch, .int .i64 a1c0.Version.N, .int .u32 a1c0.Crc]] : List (List Value)))]) ?_ ⟨a0, 0⟩ ⟨List.drop_zero .., hm⟩
  rintro ⟨rs39, v8_1⟩ ⟨hd24, hm⟩ ih40
  cases rs39 with
  | nil =>
    replace hm := (hfn44 _ _).symm.trans hm
    try dsimp only at hm
    refine GS.seq ?_
    refine GS.region (env' := fun _ => [(0, .slice a0_o a0.length a0_c), (1, .func (.func 37) #[] #[.pointer (some ⟨a1c0b, 0, none⟩)]), (7, .int .i64 ((a0.length : Nat) : Int)), (8, .int .i64 ((v8_1 : Nat) : Int)), (9, .bool (decide (((v8_1 : Nat) : Int) < ((a0.length : Nat) : Int))))]) (mem' := fun _ => [(1, r48 a0_o a0), (2, .rd (some ⟨a1c0b, 0, none⟩) 4 ([[.string a1c0.Name, .int .i64 a1c0.Version.Epoch, .int .i64 a1c0.Version.N, .int .u32 a1c0.Crc]] : List (List Value)))]) (RunsTo.mk [] [0, 1, 7, 8, 9] [1, 2] (fun _ => []) (fun _ => by kernel_rfl) (fun _ => trivial)) ?_
    intro _
    refine GS.seq ?_
    refine GS.cond (t := decide (((v8_1 : Nat) : Int) < ((a0.length : Nat) : Int))) rfl rfl (fun h37 => absb h37 (drop_dec0 hd24)) (fun _ => ?_)
    refine GS.exit rfl ?_
    refine GS.seq ?_
    refine GS.region (env' := fun _ => [(4, .int .i64 (-1))]) (mem' := fun _ => []) (RunsTo.mk [] [4] [] (fun _ => []) (fun _ => by kernel_rfl) (fun _ => trivial)) ?_
    intro _
    have hy := Option.some.inj hm
    subst hy
    refine GS.ret (fn := Try.f36) [0] [.int .i64 (-1)] [] rfl Try.func36 (by kernel_rfl) trivial (fun w' hs => ?_)
    exact ⟨(), rfl, hs.turnedG (ks := []) rfl rfl⟩
  | cons x26 rs39 =>
    replace hm := (hst43 _ _ _ _).symm.trans hm
    try dsimp only at hm
    refine GS.seq ?_
    refine GS.region (env' := fun _ => [(0, .slice a0_o a0.length a0_c), (1, .func (.func 37) #[] #[.pointer (some ⟨a1c0b, 0, none⟩)]), (7, .int .i64 ((a0.length : Nat) : Int)), (8, .int .i64 ((v8_1 : Nat) : Int)), (9, .bool (decide (((v8_1 : Nat) : Int) < ((a0.length : Nat) : Int))))]) (mem' := fun _ => [(1, r48 a0_o a0), (2, .rd (some ⟨a1c0b, 0, none⟩) 4 ([[.string a1c0.Name, .int .i64 a1c0.Version.Epoch, .int .i64 a1c0.Version.N, .int .u32 a1c0.Crc]] : List (List Value)))]) (RunsTo.mk [] [0, 1, 7, 8, 9] [1, 2] (fun _ => []) (fun _ => by kernel_rfl) (fun _ => trivial)) ?_
    intro _
    refine GS.seq ?_
    refine GS.cond (t := decide (((v8_1 : Nat) : Int) < ((a0.length : Nat) : Int))) rfl rfl (fun _ => ?_) (fun h28 => absb (drop_dec hd24) h28)
    refine GS.skip ?_
    refine GS.seq ?_
    refine GS.block ?_
    refine GS.seq ?_
    refine GS.region (env' := fun _ => [(0, .slice a0_o a0.length a0_c), (1, .func (.func 37) #[] #[.pointer (some ⟨a1c0b, 0, none⟩)]), (5, .int .i64 ((v8_1 : Nat) : Int)), (7, .int .i64 ((a0.length : Nat) : Int)), (8, .int .i64 ((v8_1 : Nat) : Int))]) (mem' := fun _ => [(1, r48 a0_o a0), (2, .rd (some ⟨a1c0b, 0, none⟩) 4 ([[.string a1c0.Name, .int .i64 a1c0.Version.Epoch, .int .i64 a1c0.Version.N, .int .u32 a1c0.Crc]] : List (List Value)))]) (RunsTo.mk [] [0, 1, 5, 7, 8] [1, 2] (fun _ => []) (fun _ => by kernel_rfl) (fun _ => trivial)) ?_
    intro _
    refine GS.seq ?_
    refine bnd_elim hm (fun y31 e32 hm => ?_)
    refine GS.region (env' := fun _ => [(0, .slice a0_o a0.length a0_c), (1, .func (.func 37) #[] #[.pointer (some ⟨a1c0b, 0, none⟩)]), (5, .int .i64 ((v8_1 : Nat) : Int)), (7, .int .i64 ((a0.length : Nat) : Int)), (8, .int .i64 ((v8_1 : Nat) : Int)), (16, .bool y31)]) (mem' := fun _ => [(1, r48 a0_o a0), (2, .rd (some ⟨a1c0b, 0, none⟩) 4 ([[.string a1c0.Name, .int .i64 a1c0.Version.Epoch, .int .i64 a1c0.Version.N, .int .u32 a1c0.Crc]] : List (List Value)))]) (RunsTo.mk [(3, { act := .idx 1 v8_1 }), (4, { act := .load 1 v8_1 0 [.string x26.Name, .int .i64 x26.Version.Epoch, .int .i64 x26.Version.N, .int .u32 x26.Crc] }), (5, { act := .call [2] (.bool y31) })] [0, 1, 5, 7, 8, 16] [1, 2] (fun _ => [a0_o = a0_o, a0.length = (List.map S_api_Item.row a0).length, (((v8_1 : Nat) : Int) : Int) = ((v8_1 : Nat) : Int), v8_1 < a0.length, blk a0_o = blk a0_o, offs a0_o + v8_1 * 4 = offs a0_o + (v8_1 * 4 + 0), (List.map S_api_Item.row a0)[v8_1]? = some [.string x26.Name, .int .i64 x26.Version.Epoch, .int .i64 x26.Version.N, .int .u32 x26.Crc], CallOK Try.prog 37 #[.agg #[.string x26.Name, .int .i64 x26.Version.Epoch, .int .i64 x26.Version.N, .int .u32 x26.Crc], .pointer (some ⟨a1c0b, 0, none⟩)] (.bool y31) [some (.rd (some ⟨a1c0b, 0, none⟩) 4 ([[.string a1c0.Name, .int .i64 a1c0.Version.Epoch, .int .i64 a1c0.Version.N, .int .u32 a1c0.Crc]] : List (List Value)))]]) (fun _ => by kernel_rfl) (fun _ => ⟨rfl, mlen S_api_Item.row a0, rfl, (drop_lt hd24), rfl, rfl, map_drop S_api_Item.row hd24, (w_backfill_Apply_1_1 F x26 a1c0b a1c0 e32).ok ⟨(.inl ⟨.rd (some ⟨a1c0b, 0, none⟩) 4 ([[.string a1c0.Name, .int .i64 a1c0.Version.Epoch, .int .i64 a1c0.Version.N, .int .u32 a1c0.Crc]] : List (List Value)), .head _, Cov.refl _⟩), trivial⟩, trivial⟩)) ?_
    intro _
    refine GS.cond (t := y31) rfl rfl (fun h33 => ?_) (fun h33 => ?_)
    · replace hm := br_t h33 hm
      refine GS.seq ?_
      refine GS.region (env' := fun _ => [(4, .int .i64 ((v8_1 : Nat) : Int))]) (mem' := fun _ => []) (RunsTo.mk [] [4] [] (fun _ => []) (fun _ => by kernel_rfl) (fun _ => trivial)) ?_
      intro _
      have hy := Option.some.inj hm
      subst hy
      refine GS.ret (fn := Try.f36) [0] [.int .i64 ((v8_1 : Nat) : Int)] [] rfl Try.func36 (by kernel_rfl) trivial (fun w' hs => ?_)
      exact ⟨(), rfl, hs.turnedG (ks := []) rfl rfl⟩
    · replace hm := br_f h33 hm
      refine GS.skip ?_
      refine GS.inBlock ?_
      refine GS.region (env' := fun _ => [(0, .slice a0_o a0.length a0_c), (1, .func (.func 37) #[] #[.pointer (some ⟨a1c0b, 0, none⟩)]), (7, .int .i64 ((a0.length : Nat) : Int)), (8, .int .i64 ((v8_1 + 1 : Nat) : Int))]) (mem' := fun _ => [(1, r48 a0_o a0), (2, .rd (some ⟨a1c0b, 0, none⟩) 4 ([[.string a1c0.Name, .int .i64 a1c0.Version.Epoch, .int .i64 a1c0.Version.N, .int .u32 a1c0.Crc]] : List (List Value)))]) (RunsTo.mk [(0, { sp := some (.int .i64 ((v8_1 + 1 : Nat) : Int)) })] [0, 1, 7, 8] [1, 2] (fun _ => [((.int .i64 (IntKind.i64.wrap (((v8_1 : Nat) : Int) + 1))) : Value) = .int .i64 ((v8_1 + 1 : Nat) : Int)]) (fun _ => by kernel_rfl) (fun _ => ⟨natw (drop_lt hd24) g25, trivial⟩)) ?_
      intro _
      refine GS.inLoop ?_
      refine GS.rekey (env' := [(0, .slice a0_o a0.length a0_c), (1, .func (.func 37) #[] #[.pointer (some ⟨a1c0b, 0, none⟩)]), (7, .int .i64 ((a0.length : Nat) : Int)), (8, .int .i64 ((v8_1 + 1 : Nat) : Int))]) (mem' := [(1, r48 a0_o a0), (2, .rd (some ⟨a1c0b, 0, none⟩) 4 ([[.string a1c0.Name, .int .i64 a1c0.Version.Epoch, .int .i64 a1c0.Version.N, .int .u32 a1c0.Crc]] : List (List Value)))]) [0, 1, 7, 8] [(1, 1), (2, 2)] (by kernel_rfl) (by kernel_rfl) rfl ?_
      exact ih40 ⟨rs39, v8_1 + 1⟩ ⟨drop_next hd24, hm⟩ (Nat.lt_succ_self _)

theorem w_backfill_Apply_1 (F : Nat) (a0 : S_api_Item) (a1b : Nat) (a1_o : Option Addr) (a1_c : Nat) (a1 : List S_api_Item) {y : List S_api_Item} (hm : m_backfill_Apply_1 F a0 a1 = some y) : CallG Try.prog 35 #[.agg #[.string a0.Name, .int .i64 a0.Version.Epoch, .int .i64 a0.Version.N, .int .u32 a0.Crc], .pointer (some ⟨a1b, 0, none⟩)] (X := Option Addr × Nat) (fun ⟨x0, x1⟩ => .tuple #[]) [o48 a1_o a1_c a1, .cells a1b 29 [.slice a1_o a1.length a1_c]] [] (fun ⟨x0, x1⟩ => [o48 x0 x1 y, .cells a1b 29 [.slice x0 y.length x1]]) := by
  intro w hg
  rw [m_backfill_Apply_1] at hm
  refine GS.start (S := mayT [o48 a1_o a1_c a1, .cells a1b 29 [.slice a1_o a1.length a1_c]] []) (mem := [(1, o48 a1_o a1_c a1), (2, .cells a1b 29 [.slice a1_o a1.length a1_c])]) Try.func35 rfl Try.ntmps35 (Nat.le_of_ble_eq_true rfl) (hg.start rfl) ?_
  refine GS.conv (env' := [(0, .agg #[.string a0.Name, .int .i64 a0.Version.Epoch, .int .i64 a0.Version.N, .int .u32 a0.Crc]), (1, .pointer (some ⟨a1b, 0, none⟩))]) rfl rfl ?_
  refine GS.seq ?_
  refine GS.region (env' := fun fr1 => [(1, .pointer (some ⟨a1b, 0, none⟩)), (2, .pointer (some ⟨(fr1 0).x, 0, none⟩))]) (mem' := fun fr1 => [(1, o48 a1_o a1_c a1), (2, .cells a1b 29 [.slice a1_o a1.length a1_c]), (3, .cells ((fr1 0).x) 48 [.string a0.Name, .int .i64 a0.Version.Epoch, .int .i64 a0.Version.N, .int .u32 a0.Crc])]) (RunsTo.mk [(0, { act := .new .var, key := some 3 })] [1, 2] [1, 2, 3] (fun fr1 => []) (fun fr1 => by kernel_rfl) (fun fr1 => trivial)) ?_
  intro fr1
  refine GS.seq ?_
  refine bnd_elim hm (fun y3 e4 hm => ?_)
  refine GS.region (env' := fun _ => [(1, .pointer (some ⟨a1b, 0, none⟩)), (2, .pointer (some ⟨(fr1 0).x, 0, none⟩)), (3, .int .i64 y3)]) (mem' := fun _ => [(1, o48 a1_o a1_c a1), (2, .cells a1b 29 [.slice a1_o a1.length a1_c]), (3, .cells ((fr1 0).x) 48 [.string a0.Name, .int .i64 a0.Version.Epoch, .int .i64 a0.Version.N, .int .u32 a0.Crc])]) (RunsTo.mk [(0, { act := .load 2 0 0 [] }), (2, { act := .call [1, 3] (.int .i64 y3) })] [1, 2, 3] [1, 2, 3] (fun _ => [a1b = a1b, CallOK Try.prog 36 #[.slice a1_o a1.length a1_c, .func (.func 37) #[] #[.pointer (some ⟨(fr1 0).x, 0, none⟩)]] (.int .i64 y3) [some (o48 a1_o a1_c a1), some (.cells ((fr1 0).x) 48 [.string a0.Name, .int .i64 a0.Version.Epoch, .int .i64 a0.Version.N, .int .u32 a0.Crc])]]) (fun _ => by kernel_rfl) (fun _ => ⟨rfl, (w_slices_IndexFunc___api_Item_api_Item_ F a1_o a1_c a1 (fr1 0).x a0 e4).ok ⟨(.inl ⟨o48 a1_o a1_c a1, .head _, Cov.osl_rd⟩), (.inl ⟨.cells ((fr1 0).x) 48 [.string a0.Name, .int .i64 a0.Version.Epoch, .int .i64 a0.Version.N, .int .u32 a0.Crc], (.tail _ (.head _)), Cov.cells_rd⟩), trivial⟩, trivial⟩)) ?_
  intro _
  refine GS.seq ?_
  refine GS.seq ?_
  refine GS.region (env' := fun _ => [(1, .pointer (some ⟨a1b, 0, none⟩)), (2, .pointer (some ⟨(fr1 0).x, 0, none⟩)), (3, .int .i64 y3), (8, .bool (decide (y3 ≥ 0)))]) (mem' := fun _ => [(1, o48 a1_o a1_c a1), (2, .cells a1b 29 [.slice a1_o a1.length a1_c]), (3, .cells ((fr1 0).x) 48 [.string a0.Name, .int .i64 a0.Version.Epoch, .int .i64 a0.Version.N, .int .u32 a0.Crc])]) (RunsTo.mk [] [1, 2, 3, 8] [1, 2, 3] (fun _ => []) (fun _ => by kernel_rfl) (fun _ => trivial)) ?_
  intro _
  refine GS.cond (t := decide (y3 ≥ 0)) rfl rfl (fun h6 => ?_) (fun h6 => ?_)
  · replace hm := br_t h6 hm
    refine GS.seq ?_
    refine grd_elim hm (fun g8 hm => ?_)
    refine GS.region (env' := fun _ => []) (mem' := fun _ => [(1, .osl a1_o a1_c 48 4 ((List.map S_api_Item.row a1).set (Int.toNat y3) [.string a0.Name, .int .i64 a0.Version.Epoch, .int .i64 a0.Version.N, .int .u32 a0.Crc])), (2, .cells a1b 29 [.slice a1_o a1.length a1_c])]) (RunsTo.mk [(0, { act := .load 2 0 0 [] }), (2, { act := .load 3 0 0 [] }), (3, { act := .idx 1 (Int.toNat y3) }), (4, { act := .store (Int.toNat y3) 0 [.string ((a1.getD (Int.toNat y3) dS_api_Item).Name), .int .i64 (((a1.getD (Int.toNat y3) dS_api_Item).Version).Epoch), .int .i64 (((a1.getD (Int.toNat y3) dS_api_Item).Version).N), .int .u32 ((a1.getD (Int.toNat y3) dS_api_Item).Crc)], key := some 1 })] [] [1, 2] (fun _ => [a1b = a1b, (fr1 0).x = (fr1 0).x, a1_o = a1_o, a1.length = (List.map S_api_Item.row a1).length, (y3 : Int) = (((Int.toNat y3) : Nat) : Int), (Int.toNat y3) < a1.length, blk a1_o = blk a1_o, offs a1_o + (Int.toNat y3) * 4 = offs a1_o + ((Int.toNat y3) * 4 + 0), (List.map S_api_Item.row a1)[(Int.toNat y3)]? = some [.string ((a1.getD (Int.toNat y3) dS_api_Item).Name), .int .i64 (((a1.getD (Int.toNat y3) dS_api_Item).Version).Epoch), .int .i64 (((a1.getD (Int.toNat y3) dS_api_Item).Version).N), .int .u32 ((a1.getD (Int.toNat y3) dS_api_Item).Crc)], ((.agg #[.string a0.Name, .int .i64 a0.Version.Epoch, .int .i64 a0.Version.N, .int .u32 a0.Crc]) : Value).cells.toList.all Value.oneCell' = true]) (fun _ => by kernel_rfl) (fun _ => ⟨rfl, rfl, rfl, mlen S_api_Item.row a1, g8.eq, g8.2, rfl, rfl, map_at S_api_Item.row dS_api_Item g8.2, rfl, trivial⟩)) ?_
    intro _
    refine GS.conv (mem' := [(1, o48 a1_o a1_c (a1.set (Int.toNat y3) a0)), (2, .cells a1b 29 [.slice a1_o a1.length a1_c])]) rfl (congrArg (fun rr : List (List Value) => ([(1, .osl a1_o a1_c 48 4 rr), (2, .cells a1b 29 [.slice a1_o a1.length a1_c])] : List (Nat × Ent))) (show (List.map S_api_Item.row a1).set (Int.toNat y3) [.string a0.Name, .int .i64 a0.Version.Epoch, .int .i64 a0.Version.N, .int .u32 a0.Crc] = List.map S_api_Item.row (a1.set (Int.toNat y3) a0) from mset S_api_Item.row a1 (Int.toNat y3) a0)) ?_
    refine GS.conv (mem' := [(1, o48 a1_o a1_c (a1.set (Int.toNat y3) a0)), (2, .cells a1b 29 [.slice a1_o ((a1.set (Int.toNat y3) a0).length) a1_c])]) rfl (congrArg (fun ehole : Ent => ([(1, o48 a1_o a1_c (a1.set (Int.toNat y3) a0)), (2, ehole)] : List (Nat × Ent))) (show ((.cells a1b 29 [.slice a1_o a1.length a1_c]) : Ent) = .cells a1b 29 [.slice a1_o ((a1.set (Int.toNat y3) a0).length) a1_c] from (by simp []))) ?_
    have hy := Option.some.inj hm
    subst hy
    refine GS.ret (fn := Try.f35) [] [] [] rfl Try.func35 (by kernel_rfl) trivial (fun w' hs => ?_)
    exact ⟨⟨a1_o, a1_c⟩, rfl, hs.turnedG (ks := [1, 2]) rfl rfl⟩
  · replace hm := br_f h6 hm
    refine GS.skip ?_
    refine grd_elim hm (fun g10 hm => ?_)
    refine GS.region (env' := fun fr9 => []) (mem' := fun fr9 => [(1, .osl ((fr9 3).ob) ((fr9 3).cap) 48 4 ((List.map S_api_Item.row a1) ++ ([[.string a0.Name, .int .i64 a0.Version.Epoch, .int .i64 a0.Version.N, .int .u32 a0.Crc]] : List (List Value)))), (2, .cells a1b 29 [.slice ((fr9 3).ob) ((a1 ++ [a0]).length) ((fr9 3).cap)])]) (RunsTo.mk [(0, { act := .load 2 0 0 [] }), (1, { act := .load 3 0 0 [] }), (2, { act := .new (.row 1 4), key := some 4, spf := some (fun f => .slice (some (Addr.mk f.x 0 none)) ([a0].length) 1) }), (3, { act := .app (some 4), key := some 1, spf := some (fun f => .slice (f.ob) ((a1 ++ [a0]).length) (f.cap)) }), (4, { act := .store 0 0 [], key := some 2 })] [] [1, 2] (fun fr9 => [a1b = a1b, (fr1 0).x = (fr1 0).x, ((.slice (some (Addr.mk (fr9 2).x 0 none)) 1 1) : Value) = .slice (some (Addr.mk (fr9 2).x 0 none)) ([a0].length) 1, (some (Addr.mk (fr9 2).x 0 none)) = (some (Addr.mk (fr9 2).x 0 none)), [a0].length = ([[.string a0.Name, .int .i64 a0.Version.Epoch, .int .i64 a0.Version.N, .int .u32 a0.Crc]] : List (List Value)).length, a1_o = a1_o, a1_c = a1_c, a1.length = (List.map S_api_Item.row a1).length, ((List.map S_api_Item.row a1).length + ([[.string a0.Name, .int .i64 a0.Version.Epoch, .int .i64 a0.Version.N, .int .u32 a0.Crc]] : List (List Value)).length) * (40 + 1) ≤ 70368744177664, ([[.string a0.Name, .int .i64 a0.Version.Epoch, .int .i64 a0.Version.N, .int .u32 a0.Crc]] : List (List Value)).flatten.all Value.oneCell' = true, ((.slice ((fr9 3).ob) (a1.length + ([[.string a0.Name, .int .i64 a0.Version.Epoch, .int .i64 a0.Version.N, .int .u32 a0.Crc]] : List (List Value)).length) ((fr9 3).cap)) : Value) = .slice ((fr9 3).ob) ((a1 ++ [a0]).length) ((fr9 3).cap), a1b = a1b, ((.slice ((fr9 3).ob) ((a1 ++ [a0]).length) ((fr9 3).cap)) : Value).cells.toList.all Value.oneCell' = true]) (fun fr9 => by kernel_rfl) (fun fr9 => ⟨rfl, rfl, rfl, rfl, (by rw [show ([[.string a0.Name, .int .i64 a0.Version.Epoch, .int .i64 a0.Version.N, .int .u32 a0.Crc]] : List (List Value)) = List.map S_api_Item.row [a0] from rfl]; exact mlen S_api_Item.row [a0]), rfl, rfl, mlen S_api_Item.row a1, appb g10 (mlen S_api_Item.row a1).symm (by rw [show ([[.string a0.Name, .int .i64 a0.Version.Epoch, .int .i64 a0.Version.N, .int .u32 a0.Crc]] : List (List Value)) = List.map S_api_Item.row [a0] from rfl]; exact (mlen S_api_Item.row [a0]).symm), (by rw [show ([[.string a0.Name, .int .i64 a0.Version.Epoch, .int .i64 a0.Version.N, .int .u32 a0.Crc]] : List (List Value)) = List.map S_api_Item.row [a0] from (show ([[.string a0.Name, .int .i64 a0.Version.Epoch, .int .i64 a0.Version.N, .int .u32 a0.Crc]] : List (List Value)) = List.map S_api_Item.row [a0] from rfl)]; exact all_one S_api_Item.row _ (fun _ => rfl)), slen (by simp), rfl, rfl, trivial⟩)) ?_
    intro fr9
    refine GS.conv (mem' := [(1, o48 ((fr9 3).ob) ((fr9 3).cap) (a1 ++ [a0])), (2, .cells a1b 29 [.slice ((fr9 3).ob) ((a1 ++ [a0]).length) ((fr9 3).cap)])]) rfl (congrArg (fun rr : List (List Value) => ([(1, .osl ((fr9 3).ob) ((fr9 3).cap) 48 4 rr), (2, .cells a1b 29 [.slice ((fr9 3).ob) ((a1 ++ [a0]).length) ((fr9 3).cap)])] : List (Nat × Ent))) (show (List.map S_api_Item.row a1) ++ ([[.string a0.Name, .int .i64 a0.Version.Epoch, .int .i64 a0.Version.N, .int .u32 a0.Crc]] : List (List Value)) = List.map S_api_Item.row (a1 ++ [a0]) from (by rw [show List.map S_api_Item.row a1 = List.map S_api_Item.row a1 from rfl, show ([[.string a0.Name, .int .i64 a0.Version.Epoch, .int .i64 a0.Version.N, .int .u32 a0.Crc]] : List (List Value)) = List.map S_api_Item.row [a0] from (show ([[.string a0.Name, .int .i64 a0.Version.Epoch, .int .i64 a0.Version.N, .int .u32 a0.Crc]] : List (List Value)) = List.map S_api_Item.row [a0] from rfl)]; exact mapp S_api_Item.row _ _))) ?_
    have hy := Option.some.inj hm
    subst hy
    refine GS.end_ (fn := Try.f35) [] [] [] rfl Try.func35 (by kernel_rfl) trivial (fun w' hs => ?_)
    exact ⟨⟨(fr9 3).ob, (fr9 3).cap⟩, rfl, hs.turnedG (ks := [1, 2]) rfl rfl⟩

theorem w_backfill_Apply (F : Nat) (a0_o : Option Addr) (a0_c : Nat) (a0 : List S_api_Item) (a1_o : Option Addr) (a1_c : Nat) (a1 : List S_api_Item) (a2_o : Option Addr) (a2_c : Nat) (a2 : List ByteArray) {y : List S_api_Item} (hm : m_backfill_Apply F a0 a1 a2 = some y) : CallG Try.prog 20 #[.slice a0_o a0.length a0_c, .slice a1_o a1.length a1_c, .slice a2_o a2.length a2_c] (X := Option Addr × Nat) (fun ⟨x0, x1⟩ => .slice x0 y.length x1) [] [r48 a0_o a0, r48 a1_o a1, r9 a2_o a2] (fun ⟨x0, x1⟩ => [o48 x0 x1 y]) := by
  intro w hg
  rw [m_backfill_Apply] at hm
  refine GS.start (S := mayT [] [r48 a0_o a0, r48 a1_o a1, r9 a2_o a2]) (mem := [(1, r48 a0_o a0), (2, r48 a1_o a1), (3, r9 a2_o a2)]) Try.func20 rfl Try.ntmps20 (Nat.le_of_ble_eq_true rfl) (hg.start rfl) ?_
  refine GS.conv (env' := [(0, .slice a0_o a0.length a0_c), (1, .slice a1_o a1.length a1_c), (2, .slice a2_o a2.length a2_c)]) rfl rfl ?_
  refine GS.seq ?_
  refine GS.region (env' := fun _ => [(0, .slice a0_o a0.length a0_c), (1, .slice a1_o a1.length a1_c), (2, .slice a2_o a2.length a2_c)]) (mem' := fun _ => [(1, r48 a0_o a0), (2, r48 a1_o a1), (3, r9 a2_o a2)]) (RunsTo.mk [] [0, 1, 2] [1, 2, 3] (fun _ => []) (fun _ => by kernel_rfl) (fun _ => trivial)) ?_
  intro _
  refine GS.seq ?_
  refine GS.region (env' := fun fr2 => [(0, .slice a0_o a0.length a0_c), (1, .slice a1_o a1.length a1_c), (2, .slice a2_o a2.length a2_c), (7, .pointer (some ⟨(fr2 0).x, 0, none⟩))]) (mem' := fun fr2 => [(1, r48 a0_o a0), (2, r48 a1_o a1), (3, r9 a2_o a2), (4, .cells ((fr2 0).x) 29 [.slice none 0 0])]) (RunsTo.mk [(0, { act := .new .var, key := some 4 })] [0, 1, 2, 7] [1, 2, 3, 4] (fun fr2 => []) (fun fr2 => by kernel_rfl) (fun fr2 => trivial)) ?_
  intro fr2
  refine GS.seq ?_
  refine GS.region (env' := fun _ => [(0, .slice a0_o a0.length a0_c), (1, .slice a1_o a1.length a1_c), (2, .slice a2_o a2.length a2_c), (7, .pointer (some ⟨(fr2 0).x, 0, none⟩)), (8, .func (.func 35) #[] #[.pointer (some ⟨(fr2 0).x, 0, none⟩)])]) (mem' := fun _ => [(1, r48 a0_o a0), (2, r48 a1_o a1), (3, r9 a2_o a2), (4, .cells ((fr2 0).x) 29 [.slice none 0 0])]) (RunsTo.mk [] [0, 1, 2, 7, 8] [1, 2, 3, 4] (fun _ => []) (fun _ => by kernel_rfl) (fun _ => trivial)) ?_
  intro _
  refine GS.seq ?_
  refine GS.seq ?_
  refine GS.region (env' := fun _ => [(1, .slice a1_o a1.length a1_c), (2, .slice a2_o a2.length a2_c), (7, .pointer (some ⟨(fr2 0).x, 0, none⟩)), (8, .func (.func 35) #[] #[.pointer (some ⟨(fr2 0).x, 0, none⟩)]), (14, .slice a0_o a0.length a0_c), (15, .int .i64 ((a0.length : Nat) : Int)), (16, .int .i64 0)]) (mem' := fun _ => [(1, r48 a0_o a0), (2, r48 a1_o a1), (3, r9 a2_o a2), (4, .cells ((fr2 0).x) 29 [.slice none 0 0])]) (RunsTo.mk [] [1, 2, 7, 8, 14, 15, 16] [1, 2, 3, 4] (fun _ => []) (fun _ => by kernel_rfl) (fun _ => trivial)) ?_
  intro _
  refine GS.block ?_
  refine GS.loop ?_
  refine grd_elim hm (fun g51 hm => ?_)
  refine GS.setMem (mem' := [(1, r48 a0_o a0), (2, r48 a1_o a1), (3, r9 a2_o a2), (4, .cells ((fr2 0).x) 29 [.slice none 0 0]), (20001, o48 none 0 ([] : List S_api_Item))]) (fun w hw => Sat.addNil hw rfl) ?_
  refine GS.rekey (env' := [(1, .slice a1_o a1.length a1_c), (2, .slice a2_o a2.length a2_c), (7, .pointer (some ⟨(fr2 0).x, 0, none⟩)), (8, .func (.func 35) #[] #[.pointer (some ⟨(fr2 0).x, 0, none⟩)]), (14, .slice a0_o a0.length a0_c), (15, .int .i64 ((a0.length : Nat) : Int)), (16, .int .i64 0)]) (mem' := [(1, r48 a0_o a0), (2, r48 a1_o a1), (3, r9 a2_o a2), (4, .cells ((fr2 0).x) 29 [.slice none 0 0]), (20000, o48 none 0 ([] : List S_api_Item))]) [1, 2, 7, 8, 14, 15, 16] [(1, 1), (2, 2), (3, 3), (4, 4), (20000, 20001)] (by kernel_rfl) (by kernel_rfl) rfl ?_
  refine loopL_elim hm (fun st80 fn81 hst82 hfn83 hm => ?_)
  refine GS.loopInv (ι := List S_api_Item × Nat × List S_api_Item × Option Addr × Nat) (I := fun ⟨rs78, v16_1, l20000_1, o20000_1, k20000_1⟩ => a0.drop v16_1 = rs78 ∧ loopL st80 fn81 rs78 v16_1 l20000_1 = some y) (μ := fun ⟨rs78, v16_1, l20000_1, o20000_1, k20000_1⟩ => rs78.length) (E := fun ⟨rs78, v16_1, l20000_1, o20000_1, k20000_1⟩ => [(1, .slice a1_o a1.length a1_c), (2, .slice a2_o a2.length a2_c), (7, .pointer (some ⟨(fr2 0).x, 0, none⟩)), (8, .func (.func 35) #[] #[.pointer (some ⟨(fr2 0).x, 0, none⟩)]), (14, .slice a0_o a0.length a0_c), (15, .int .i64 ((a0.length : Nat) : Int)), (16, .int .i64 ((v16_1 : Nat) : Int))]) (M := fun ⟨rs78, v16_1, l20000_1, o20000_1, k20000_1⟩ => [(1, r48 a0_o a0), (2, r48 a1_o a1), (3, r9 a2_o a2), (4, .cells ((fr2 0).x) 29 [.slice o20000_1 l20000_1.length k20000_1]), (20000, o48 o20000_1 k20000_1 l20000_1)]) ?_ ⟨a0, 0, ([] : List S_api_Item), none, 0⟩ ⟨List.drop_zero .., hm⟩
  rintro ⟨rs78, v16_1, l20000_1, o20000_1, k20000_1⟩ ⟨hd50, hm⟩ ih79
  cases rs78 with
  | nil =>
    replace hm := (hfn83 _ _).symm.trans hm
    try dsimp only at hm
    refine GS.seq ?_
    refine GS.region (env' := fun _ => [(1, .slice a1_o a1.length a1_c), (2, .slice a2_o a2.length a2_c), (7, .pointer (some ⟨(fr2 0).x, 0, none⟩)), (8, .func (.func 35) #[] #[.pointer (some ⟨(fr2 0).x, 0, none⟩)]), (14, .slice a0_o a0.length a0_c), (15, .int .i64 ((a0.length : Nat) : Int)), (16, .int .i64 ((v16_1 : Nat) : Int)), (17, .bool (decide (((v16_1 : Nat) : Int) < ((a0.length : Nat) : Int))))]) (mem' := fun _ => [(1, r48 a0_o a0), (2, r48 a1_o a1), (3, r9 a2_o a2), (4, .cells ((fr2 0).x) 29 [.slice o20000_1 l20000_1.length k20000_1]), (20000, o48 o20000_1 k20000_1 l20000_1)]) (RunsTo.mk [] [1, 2, 7, 8, 14, 15, 16, 17] [1, 2, 3, 4, 20000] (fun _ => []) (fun _ => by kernel_rfl) (fun _ => trivial)) ?_
    intro _
    refine GS.seq ?_
    refine GS.cond (t := decide (((v16_1 : Nat) : Int) < ((a0.length : Nat) : Int))) rfl rfl (fun h76 => absb h76 (drop_dec0 hd50)) (fun _ => ?_)
    refine GS.exit rfl ?_
    refine GS.seq ?_
    refine GS.seq ?_
    refine GS.region (env' := fun _ => [(7, .pointer (some ⟨(fr2 0).x, 0, none⟩)), (8, .func (.func 35) #[] #[.pointer (some ⟨(fr2 0).x, 0, none⟩)]), (29, .slice a1_o a1.length a1_c), (30, .int .i64 ((a1.length : Nat) : Int)), (31, .int .i64 0)]) (mem' := fun _ => [(2, r48 a1_o a1), (4, .cells ((fr2 0).x) 29 [.slice o20000_1 l20000_1.length k20000_1]), (20000, o48 o20000_1 k20000_1 l20000_1)]) (RunsTo.mk [] [7, 8, 29, 30, 31] [2, 4, 20000] (fun _ => []) (fun _ => by kernel_rfl) (fun _ => trivial)) ?_
    intro _
    refine GS.block ?_
    refine GS.loop ?_
    refine GS.know (p := l20000_1.length ≤ k20000_1) (fun w hw => by first | (have h := (hw.ok 20000 _ rfl).1.1; rw [List.length_map] at h; exact h) | simpa using (hw.ok 20000 _ rfl).1.1) (fun k85 => ?_)
    refine grd_elim hm (fun g110 hm => ?_)
    refine GS.rekey (env' := [(7, .pointer (some ⟨(fr2 0).x, 0, none⟩)), (8, .func (.func 35) #[] #[.pointer (some ⟨(fr2 0).x, 0, none⟩)]), (29, .slice a1_o a1.length a1_c), (30, .int .i64 ((a1.length : Nat) : Int)), (31, .int .i64 0)]) (mem' := [(2, r48 a1_o a1), (4, .cells ((fr2 0).x) 29 [.slice o20000_1 l20000_1.length k20000_1]), (20000, o48 o20000_1 k20000_1 l20000_1)]) [7, 8, 29, 30, 31] [(2, 2), (4, 4), (20000, 20000)] (by kernel_rfl) (by kernel_rfl) rfl ?_
    refine loopL_elim hm (fun st127 fn128 hst129 hfn130 hm => ?_)
    refine GS.loopInv (ι := List S_api_Item × Nat × List S_api_Item × Option Addr × Nat) (I := fun ⟨rs125, v31_1, l20000_1, o20000_1, k20000_1⟩ => a1.drop v31_1 = rs125 ∧ loopL st127 fn128 rs125 v31_1 l20000_1 = some y) (μ := fun ⟨rs125, v31_1, l20000_1, o20000_1, k20000_1⟩ => rs125.length) (E := fun ⟨rs125, v31_1, l20000_1, o20000_1, k20000_1⟩ => [(7, .pointer (some ⟨(fr2 0).x, 0, none⟩)), (8, .func (.func 35) #[] #[.pointer (some ⟨(fr2 0).x, 0, none⟩)]), (29, .slice a1_o a1.length a1_c), (30, .int .i64 ((a1.length : Nat) : Int)), (31, .int .i64 ((v31_1 : Nat) : Int))]) (M := fun ⟨rs125, v31_1, l20000_1, o20000_1, k20000_1⟩ => [(2, r48 a1_o a1), (4, .cells ((fr2 0).x) 29 [.slice o20000_1 l20000_1.length k20000_1]), (20000, o48 o20000_1 k20000_1 l20000_1)]) ?_ ⟨a1, 0, l20000_1, o20000_1, k20000_1⟩ ⟨List.drop_zero .., hm⟩
    rintro ⟨rs125, v31_1, l20000_1, o20000_1, k20000_1⟩ ⟨hd109, hm⟩ ih126
    cases rs125 with
    | nil =>
      replace hm := (hfn130 _ _).symm.trans hm
      try dsimp only at hm
      refine GS.seq ?_
      refine GS.region (env' := fun _ => [(7, .pointer (some ⟨(fr2 0).x, 0, none⟩)), (8, .func (.func 35) #[] #[.pointer (some ⟨(fr2 0).x, 0, none⟩)]), (29, .slice a1_o a1.length a1_c), (30, .int .i64 ((a1.length : Nat) : Int)), (31, .int .i64 ((v31_1 : Nat) : Int)), (32, .bool (decide (((v31_1 : Nat) : Int) < ((a1.length : Nat) : Int))))]) (mem' := fun _ => [(2, r48 a1_o a1), (4, .cells ((fr2 0).x) 29 [.slice o20000_1 l20000_1.length k20000_1]), (20000, o48 o20000_1 k20000_1 l20000_1)]) (RunsTo.mk [] [7, 8, 29, 30, 31, 32] [2, 4, 20000] (fun _ => []) (fun _ => by kernel_rfl) (fun _ => trivial)) ?_
      intro _
      refine GS.seq ?_
      refine GS.cond (t := decide (((v31_1 : Nat) : Int) < ((a1.length : Nat) : Int))) rfl rfl (fun h123 => absb h123 (drop_dec0 hd109)) (fun _ => ?_)
      refine GS.exit rfl ?_
      refine GS.seq ?_
      refine bnd_elim hm (fun y132 e133 hm => ?_)
      refine GS.open_ ?_
      refine GR.run (i := 0) 1 (env' := fun _ => [(39, .slice o20000_1 l20000_1.length k20000_1)]) (mem' := fun _ => [(20000, o48 o20000_1 k20000_1 l20000_1)]) (Nat.le_of_ble_eq_true (by kernel_rfl)) (RunsTo.mk [(0, { act := .load 4 0 0 [] })] [39] [20000] (fun _ => [(fr2 0).x = (fr2 0).x]) (fun _ => by kernel_rfl) (fun _ => ⟨rfl, trivial⟩)) ?_
      intro _
      refine GR.callG (X := Option Addr × Nat) (i := 1) (g := 28) (args := #[.slice o20000_1 l20000_1.length k20000_1]) (v := fun ⟨x134, x135⟩ => .slice x134 y132.length x135) (own := []) (ro := [r48 o20000_1 l20000_1]) (es' := fun ⟨x134, x135⟩ => [o48 x134 x135 y132]) (mem' := fun ⟨x134, x135⟩ => [(20000, o48 o20000_1 k20000_1 l20000_1), (20001, o48 x134 x135 y132)]) (env' := fun ⟨x134, x135⟩ => [(40, .slice x134 y132.length x135)]) [] [20001] [40] [20000, 20001] false (by kernel_rfl) (by kernel_rfl) (by kernel_rfl) (by kernel_rfl) (by kernel_rfl) (fun _ => rfl) (fun _ _ => rfl) ⟨(.inl ⟨20000, _, rfl, rfl, Cov.osl_rd, fun h => by cases h⟩), trivial⟩ (by rintro ⟨x134, x135⟩; kernel_rfl) (by rintro ⟨x134, x135⟩; kernel_rfl) (w_backfill_byName F o20000_1 k20000_1 l20000_1 e133) ?_
      rintro ⟨x134, x135⟩
      refine GR.run (i := 2) 1 (env' := fun _ => [(6, .slice x134 y132.length x135)]) (mem' := fun _ => [(20001, o48 x134 x135 y132)]) (Nat.le_of_ble_eq_true (by kernel_rfl)) (RunsTo.mk [] [6] [20001] (fun _ => []) (fun _ => by kernel_rfl) (fun _ => trivial)) ?_
      intro _
      refine GR.done (Nat.le_of_ble_eq_true (by kernel_rfl)) ?_
      have hy := Option.some.inj hm
      subst hy
      refine GS.ret (fn := Try.f20) [0] [.slice x134 y132.length x135] [] rfl Try.func20 (by kernel_rfl) trivial (fun w' hs => ?_)
      exact ⟨⟨x134, x135⟩, rfl, hs.turnedG (ks := [20001]) rfl rfl⟩
    | cons x111 rs125 =>
      replace hm := (hst129 _ _ _ _).symm.trans hm
      try dsimp only at hm
      refine GS.seq ?_
      refine GS.region (env' := fun _ => [(7, .pointer (some ⟨(fr2 0).x, 0, none⟩)), (8, .func (.func 35) #[] #[.pointer (some ⟨(fr2 0).x, 0, none⟩)]), (29, .slice a1_o a1.length a1_c), (30, .int .i64 ((a1.length : Nat) : Int)), (31, .int .i64 ((v31_1 : Nat) : Int)), (32, .bool (decide (((v31_1 : Nat) : Int) < ((a1.length : Nat) : Int))))]) (mem' := fun _ => [(2, r48 a1_o a1), (4, .cells ((fr2 0).x) 29 [.slice o20000_1 l20000_1.length k20000_1]), (20000, o48 o20000_1 k20000_1 l20000_1)]) (RunsTo.mk [] [7, 8, 29, 30, 31, 32] [2, 4, 20000] (fun _ => []) (fun _ => by kernel_rfl) (fun _ => trivial)) ?_
      intro _
      refine GS.seq ?_
      refine GS.cond (t := decide (((v31_1 : Nat) : Int) < ((a1.length : Nat) : Int))) rfl rfl (fun _ => ?_) (fun h113 => absb (drop_dec hd109) h113)
      refine GS.skip ?_
      refine GS.seq ?_
      refine GS.block ?_
      refine GS.seq ?_
      refine GS.region (env' := fun fr114 => [(7, .pointer (some ⟨(fr2 0).x, 0, none⟩)), (8, .func (.func 35) #[] #[.pointer (some ⟨(fr2 0).x, 0, none⟩)]), (12, .pointer (some ⟨(fr114 2).x, 0, none⟩)), (29, .slice a1_o a1.length a1_c), (30, .int .i64 ((a1.length : Nat) : Int)), (31, .int .i64 ((v31_1 : Nat) : Int))]) (mem' := fun fr114 => [(2, r48 a1_o a1), (4, .cells ((fr2 0).x) 29 [.slice o20000_1 l20000_1.length k20000_1]), (20000, o48 o20000_1 k20000_1 l20000_1), (20001, .cells ((fr114 2).x) 48 [.string x111.Name, .int .i64 x111.Version.Epoch, .int .i64 x111.Version.N, .int .u32 x111.Crc])]) (RunsTo.mk [(0, { act := .idx 2 v31_1 }), (1, { act := .load 2 v31_1 0 [.string x111.Name, .int .i64 x111.Version.Epoch, .int .i64 x111.Version.N, .int .u32 x111.Crc] }), (2, { act := .new .var, key := some 20001 }), (3, { act := .store 0 0 [], key := some 20001 })] [7, 8, 12, 29, 30, 31] [2, 4, 20000, 20001] (fun fr114 => [a1_o = a1_o, a1.length = (List.map S_api_Item.row a1).length, (((v31_1 : Nat) : Int) : Int) = ((v31_1 : Nat) : Int), v31_1 < a1.length, blk a1_o = blk a1_o, offs a1_o + v31_1 * 4 = offs a1_o + (v31_1 * 4 + 0), (List.map S_api_Item.row a1)[v31_1]? = some [.string x111.Name, .int .i64 x111.Version.Epoch, .int .i64 x111.Version.N, .int .u32 x111.Crc], (fr114 2).x = (fr114 2).x, ((.agg #[.string x111.Name, .int .i64 x111.Version.Epoch, .int .i64 x111.Version.N, .int .u32 x111.Crc]) : Value).cells.toList.all Value.oneCell' = true]) (fun fr114 => by kernel_rfl) (fun fr114 => ⟨rfl, mlen S_api_Item.row a1, rfl, (drop_lt hd109), rfl, rfl, map_drop S_api_Item.row hd109, rfl, rfl, trivial⟩)) ?_
      intro fr114
      refine bnd_elim hm (fun y116 e117 hm => ?_)
      refine GS.open_ ?_
      refine GR.run (i := 0) 2 (env' := fun _ => [(7, .pointer (some ⟨(fr2 0).x, 0, none⟩)), (8, .func (.func 35) #[] #[.pointer (some ⟨(fr2 0).x, 0, none⟩)]), (29, .slice a1_o a1.length a1_c), (30, .int .i64 ((a1.length : Nat) : Int)), (31, .int .i64 ((v31_1 : Nat) : Int)), (35, .func (.func 35) #[] #[.pointer (some ⟨(fr2 0).x, 0, none⟩)]), (36, .agg #[.string x111.Name, .int .i64 x111.Version.Epoch, .int .i64 x111.Version.N, .int .u32 x111.Crc])]) (mem' := fun _ => [(2, r48 a1_o a1), (4, .cells ((fr2 0).x) 29 [.slice o20000_1 l20000_1.length k20000_1]), (20000, o48 o20000_1 k20000_1 l20000_1)]) (Nat.le_of_ble_eq_true (by kernel_rfl)) (RunsTo.mk [(1, { act := .load 20001 0 0 [] })] [7, 8, 29, 30, 31, 35, 36] [2, 4, 20000] (fun _ => [(fr114 2).x = (fr114 2).x]) (fun _ => by kernel_rfl) (fun _ => ⟨rfl, trivial⟩)) ?_
      intro _
      refine GR.callG (X := Option Addr × Nat) (i := 2) (g := 35) (args := #[.agg #[.string x111.Name, .int .i64 x111.Version.Epoch, .int .i64 x111.Version.N, .int .u32 x111.Crc], .pointer (some ⟨(fr2 0).x, 0, none⟩)]) (v := fun ⟨x118, x119⟩ => .tuple #[]) (own := [o48 o20000_1 k20000_1 l20000_1, .cells ((fr2 0).x) 29 [.slice o20000_1 l20000_1.length k20000_1]]) (ro := []) (es' := fun ⟨x118, x119⟩ => [o48 x118 x119 y116, .cells ((fr2 0).x) 29 [.slice x118 y116.length x119]]) (mem' := fun ⟨x118, x119⟩ => [(2, r48 a1_o a1), (4, .cells ((fr2 0).x) 29 [.slice x118 y116.length x119]), (20002, o48 x118 x119 y116)]) (env' := fun ⟨x118, x119⟩ => [(7, .pointer (some ⟨(fr2 0).x, 0, none⟩)), (8, .func (.func 35) #[] #[.pointer (some ⟨(fr2 0).x, 0, none⟩)]), (29, .slice a1_o a1.length a1_c), (30, .int .i64 ((a1.length : Nat) : Int)), (31, .int .i64 ((v31_1 : Nat) : Int))]) [20000, 4] [20002, 4] [7, 8, 29, 30, 31] [2, 4, 20002] false (by kernel_rfl) (by kernel_rfl) (by kernel_rfl) (by kernel_rfl) (by kernel_rfl) (fun _ => rfl) (fun _ _ => rfl) trivial (by rintro ⟨x118, x119⟩; kernel_rfl) (by rintro ⟨x118, x119⟩; kernel_rfl) (w_backfill_Apply_1 F x111 (fr2 0).x o20000_1 k20000_1 l20000_1 e117) ?_
      rintro ⟨x118, x119⟩
      refine GR.done (Nat.le_of_ble_eq_true (by kernel_rfl)) ?_
      refine GS.inBlock ?_
      refine GS.region (env' := fun _ => [(7, .pointer (some ⟨(fr2 0).x, 0, none⟩)), (8, .func (.func 35) #[] #[.pointer (some ⟨(fr2 0).x, 0, none⟩)]), (29, .slice a1_o a1.length a1_c), (30, .int .i64 ((a1.length : Nat) : Int)), (31, .int .i64 ((v31_1 + 1 : Nat) : Int))]) (mem' := fun _ => [(2, r48 a1_o a1), (4, .cells ((fr2 0).x) 29 [.slice x118 y116.length x119]), (20002, o48 x118 x119 y116)]) (RunsTo.mk [(0, { sp := some (.int .i64 ((v31_1 + 1 : Nat) : Int)) })] [7, 8, 29, 30, 31] [2, 4, 20002] (fun _ => [((.int .i64 (IntKind.i64.wrap (((v31_1 : Nat) : Int) + 1))) : Value) = .int .i64 ((v31_1 + 1 : Nat) : Int)]) (fun _ => by kernel_rfl) (fun _ => ⟨natw (drop_lt hd109) g110, trivial⟩)) ?_
      intro _
      refine GS.inLoop ?_
      refine GS.rekey (env' := [(7, .pointer (some ⟨(fr2 0).x, 0, none⟩)), (8, .func (.func 35) #[] #[.pointer (some ⟨(fr2 0).x, 0, none⟩)]), (29, .slice a1_o a1.length a1_c), (30, .int .i64 ((a1.length : Nat) : Int)), (31, .int .i64 ((v31_1 + 1 : Nat) : Int))]) (mem' := [(2, r48 a1_o a1), (4, .cells ((fr2 0).x) 29 [.slice x118 y116.length x119]), (20000, o48 x118 x119 y116)]) [7, 8, 29, 30, 31] [(2, 2), (4, 4), (20000, 20002)] (by kernel_rfl) (by kernel_rfl) rfl ?_
      exact ih126 ⟨rs125, v31_1 + 1, y116, x118, x119⟩ ⟨drop_next hd109, hm⟩ (Nat.lt_succ_self _)
  | cons x52 rs78 =>
    replace hm := (hst82 _ _ _ _).symm.trans hm
    try dsimp only at hm
    refine GS.seq ?_
    refine GS.region (env' := fun _ => [(1, .slice a1_o a1.length a1_c), (2, .slice a2_o a2.length a2_c), (7, .pointer (some ⟨(fr2 0).x, 0, none⟩)), (8, .func (.func 35) #[] #[.pointer (some ⟨(fr2 0).x, 0, none⟩)]), (14, .slice a0_o a0.length a0_c), (15, .int .i64 ((a0.length : Nat) : Int)), (16, .int .i64 ((v16_1 : Nat) : Int)), (17, .bool (decide (((v16_1 : Nat) : Int) < ((a0.length : Nat) : Int))))]) (mem' := fun _ => [(1, r48 a0_o a0), (2, r48 a1_o a1), (3, r9 a2_o a2), (4, .cells ((fr2 0).x) 29 [.slice o20000_1 l20000_1.length k20000_1]), (20000, o48 o20000_1 k20000_1 l20000_1)]) (RunsTo.mk [] [1, 2, 7, 8, 14, 15, 16, 17] [1, 2, 3, 4, 20000] (fun _ => []) (fun _ => by kernel_rfl) (fun _ => trivial)) ?_
    intro _
    refine GS.seq ?_
    refine GS.cond (t := decide (((v16_1 : Nat) : Int) < ((a0.length : Nat) : Int))) rfl rfl (fun _ => ?_) (fun h54 => absb (drop_dec hd50) h54)
    refine GS.skip ?_
    refine GS.seq ?_
    refine GS.block ?_
    refine GS.seq ?_
    refine GS.region (env' := fun fr55 => [(1, .slice a1_o a1.length a1_c), (2, .slice a2_o a2.length a2_c), (7, .pointer (some ⟨(fr2 0).x, 0, none⟩)), (8, .func (.func 35) #[] #[.pointer (some ⟨(fr2 0).x, 0, none⟩)]), (10, .pointer (some ⟨(fr55 2).x, 0, none⟩)), (14, .slice a0_o a0.length a0_c), (15, .int .i64 ((a0.length : Nat) : Int)), (16, .int .i64 ((v16_1 : Nat) : Int))]) (mem' := fun fr55 => [(1, r48 a0_o a0), (2, r48 a1_o a1), (3, r9 a2_o a2), (4, .cells ((fr2 0).x) 29 [.slice o20000_1 l20000_1.length k20000_1]), (20000, o48 o20000_1 k20000_1 l20000_1), (20001, .cells ((fr55 2).x) 48 [.string x52.Name, .int .i64 x52.Version.Epoch, .int .i64 x52.Version.N, .int .u32 x52.Crc])]) (RunsTo.mk [(0, { act := .idx 1 v16_1 }), (1, { act := .load 1 v16_1 0 [.string x52.Name, .int .i64 x52.Version.Epoch, .int .i64 x52.Version.N, .int .u32 x52.Crc] }), (2, { act := .new .var, key := some 20001 }), (3, { act := .store 0 0 [], key := some 20001 })] [1, 2, 7, 8, 10, 14, 15, 16] [1, 2, 3, 4, 20000, 20001] (fun fr55 => [a0_o = a0_o, a0.length = (List.map S_api_Item.row a0).length, (((v16_1 : Nat) : Int) : Int) = ((v16_1 : Nat) : Int), v16_1 < a0.length, blk a0_o = blk a0_o, offs a0_o + v16_1 * 4 = offs a0_o + (v16_1 * 4 + 0), (List.map S_api_Item.row a0)[v16_1]? = some [.string x52.Name, .int .i64 x52.Version.Epoch, .int .i64 x52.Version.N, .int .u32 x52.Crc], (fr55 2).x = (fr55 2).x, ((.agg #[.string x52.Name, .int .i64 x52.Version.Epoch, .int .i64 x52.Version.N, .int .u32 x52.Crc]) : Value).cells.toList.all Value.oneCell' = true]) (fun fr55 => by kernel_rfl) (fun fr55 => ⟨rfl, mlen S_api_Item.row a0, rfl, (drop_lt hd50), rfl, rfl, map_drop S_api_Item.row hd50, rfl, rfl, trivial⟩)) ?_
    intro fr55
    refine GS.seq ?_
    refine bnd_elim hm (fun y57 e58 hm => ?_)
    refine GS.region (env' := fun _ => [(1, .slice a1_o a1.length a1_c), (2, .slice a2_o a2.length a2_c), (7, .pointer (some ⟨(fr2 0).x, 0, none⟩)), (8, .func (.func 35) #[] #[.pointer (some ⟨(fr2 0).x, 0, none⟩)]), (10, .pointer (some ⟨(fr55 2).x, 0, none⟩)), (14, .slice a0_o a0.length a0_c), (15, .int .i64 ((a0.length : Nat) : Int)), (16, .int .i64 ((v16_1 : Nat) : Int)), (24, .bool (!y57))]) (mem' := fun _ => [(1, r48 a0_o a0), (2, r48 a1_o a1), (3, r9 a2_o a2), (4, .cells ((fr2 0).x) 29 [.slice o20000_1 l20000_1.length k20000_1]), (20000, o48 o20000_1 k20000_1 l20000_1), (20001, .cells ((fr55 2).x) 48 [.string x52.Name, .int .i64 x52.Version.Epoch, .int .i64 x52.Version.N, .int .u32 x52.Crc])]) (RunsTo.mk [(2, { act := .load 20001 0 0 [] }), (3, { act := .call [3] (.bool y57) })] [1, 2, 7, 8, 10, 14, 15, 16, 24] [1, 2, 3, 4, 20000, 20001] (fun _ => [(fr55 2).x = (fr55 2).x, CallOK Try.prog 38 #[.slice a2_o a2.length a2_c, .string x52.Name] (.bool y57) [some (r9 a2_o a2)]]) (fun _ => by kernel_rfl) (fun _ => ⟨rfl, (w_slices_Contains___string_string_ F a2_o a2_c a2 x52.Name e58).ok ⟨(.inl ⟨r9 a2_o a2, .head _, Cov.refl _⟩), trivial⟩, trivial⟩)) ?_
    intro _
    refine GS.cond (t := !y57) rfl rfl (fun h59 => ?_) (fun h59 => ?_)
    · replace hm := br_t h59 hm
      refine bnd_elim hm (fun y61 e62 hm => ?_)
      refine GS.open_ ?_
      refine GR.run (i := 0) 2 (env' := fun _ => [(1, .slice a1_o a1.length a1_c), (2, .slice a2_o a2.length a2_c), (7, .pointer (some ⟨(fr2 0).x, 0, none⟩)), (8, .func (.func 35) #[] #[.pointer (some ⟨(fr2 0).x, 0, none⟩)]), (14, .slice a0_o a0.length a0_c), (15, .int .i64 ((a0.length : Nat) : Int)), (16, .int .i64 ((v16_1 : Nat) : Int)), (25, .func (.func 35) #[] #[.pointer (some ⟨(fr2 0).x, 0, none⟩)]), (26, .agg #[.string x52.Name, .int .i64 x52.Version.Epoch, .int .i64 x52.Version.N, .int .u32 x52.Crc])]) (mem' := fun _ => [(1, r48 a0_o a0), (2, r48 a1_o a1), (3, r9 a2_o a2), (4, .cells ((fr2 0).x) 29 [.slice o20000_1 l20000_1.length k20000_1]), (20000, o48 o20000_1 k20000_1 l20000_1)]) (Nat.le_of_ble_eq_true (by kernel_rfl)) (RunsTo.mk [(1, { act := .load 20001 0 0 [] })] [1, 2, 7, 8, 14, 15, 16, 25, 26] [1, 2, 3, 4, 20000] (fun _ => [(fr55 2).x = (fr55 2).x]) (fun _ => by kernel_rfl) (fun _ => ⟨rfl, trivial⟩)) ?_
      intro _
      refine GR.callG (X := Option Addr × Nat) (i := 2) (g := 35) (args := #[.agg #[.string x52.Name, .int .i64 x52.Version.Epoch, .int .i64 x52.Version.N, .int .u32 x52.Crc], .pointer (some ⟨(fr2 0).x, 0, none⟩)]) (v := fun ⟨x63, x64⟩ => .tuple #[]) (own := [o48 o20000_1 k20000_1 l20000_1, .cells ((fr2 0).x) 29 [.slice o20000_1 l20000_1.length k20000_1]]) (ro := []) (es' := fun ⟨x63, x64⟩ => [o48 x63 x64 y61, .cells ((fr2 0).x) 29 [.slice x63 y61.length x64]]) (mem' := fun ⟨x63, x64⟩ => [(1, r48 a0_o a0), (2, r48 a1_o a1), (3, r9 a2_o a2), (4, .cells ((fr2 0).x) 29 [.slice x63 y61.length x64]), (20002, o48 x63 x64 y61)]) (env' := fun ⟨x63, x64⟩ => [(1, .slice a1_o a1.length a1_c), (2, .slice a2_o a2.length a2_c), (7, .pointer (some ⟨(fr2 0).x, 0, none⟩)), (8, .func (.func 35) #[] #[.pointer (some ⟨(fr2 0).x, 0, none⟩)]), (14, .slice a0_o a0.length a0_c), (15, .int .i64 ((a0.length : Nat) : Int)), (16, .int .i64 ((v16_1 : Nat) : Int))]) [20000, 4] [20002, 4] [1, 2, 7, 8, 14, 15, 16] [1, 2, 3, 4, 20002] false (by kernel_rfl) (by kernel_rfl) (by kernel_rfl) (by kernel_rfl) (by kernel_rfl) (fun _ => rfl) (fun _ _ => rfl) trivial (by rintro ⟨x63, x64⟩; kernel_rfl) (by rintro ⟨x63, x64⟩; kernel_rfl) (w_backfill_Apply_1 F x52 (fr2 0).x o20000_1 k20000_1 l20000_1 e62) ?_
      rintro ⟨x63, x64⟩
      refine GR.done (Nat.le_of_ble_eq_true (by kernel_rfl)) ?_
      refine GS.inBlock ?_
      refine GS.region (env' := fun _ => [(1, .slice a1_o a1.length a1_c), (2, .slice a2_o a2.length a2_c), (7, .pointer (some ⟨(fr2 0).x, 0, none⟩)), (8, .func (.func 35) #[] #[.pointer (some ⟨(fr2 0).x, 0, none⟩)]), (14, .slice a0_o a0.length a0_c), (15, .int .i64 ((a0.length : Nat) : Int)), (16, .int .i64 ((v16_1 + 1 : Nat) : Int))]) (mem' := fun _ => [(1, r48 a0_o a0), (2, r48 a1_o a1), (3, r9 a2_o a2), (4, .cells ((fr2 0).x) 29 [.slice x63 y61.length x64]), (20002, o48 x63 x64 y61)]) (RunsTo.mk [(0, { sp := some (.int .i64 ((v16_1 + 1 : Nat) : Int)) })] [1, 2, 7, 8, 14, 15, 16] [1, 2, 3, 4, 20002] (fun _ => [((.int .i64 (IntKind.i64.wrap (((v16_1 : Nat) : Int) + 1))) : Value) = .int .i64 ((v16_1 + 1 : Nat) : Int)]) (fun _ => by kernel_rfl) (fun _ => ⟨natw (drop_lt hd50) g51, trivial⟩)) ?_
      intro _
      refine GS.inLoop ?_
      refine GS.rekey (env' := [(1, .slice a1_o a1.length a1_c), (2, .slice a2_o a2.length a2_c), (7, .pointer (some ⟨(fr2 0).x, 0, none⟩)), (8, .func (.func 35) #[] #[.pointer (some ⟨(fr2 0).x, 0, none⟩)]), (14, .slice a0_o a0.length a0_c), (15, .int .i64 ((a0.length : Nat) : Int)), (16, .int .i64 ((v16_1 + 1 : Nat) : Int))]) (mem' := [(1, r48 a0_o a0), (2, r48 a1_o a1), (3, r9 a2_o a2), (4, .cells ((fr2 0).x) 29 [.slice x63 y61.length x64]), (20000, o48 x63 x64 y61)]) [1, 2, 7, 8, 14, 15, 16] [(1, 1), (2, 2), (3, 3), (4, 4), (20000, 20002)] (by kernel_rfl) (by kernel_rfl) rfl ?_
      exact ih79 ⟨rs78, v16_1 + 1, y61, x63, x64⟩ ⟨drop_next hd50, hm⟩ (Nat.lt_succ_self _)
    · replace hm := br_f h59 hm
      refine GS.skip ?_
      refine GS.inBlock ?_
      refine GS.region (env' := fun _ => [(1, .slice a1_o a1.length a1_c), (2, .slice a2_o a2.length a2_c), (7, .pointer (some ⟨(fr2 0).x, 0, none⟩)), (8, .func (.func 35) #[] #[.pointer (some ⟨(fr2 0).x, 0, none⟩)]), (14, .slice a0_o a0.length a0_c), (15, .int .i64 ((a0.length : Nat) : Int)), (16, .int .i64 ((v16_1 + 1 : Nat) : Int))]) (mem' := fun _ => [(1, r48 a0_o a0), (2, r48 a1_o a1), (3, r9 a2_o a2), (4, .cells ((fr2 0).x) 29 [.slice o20000_1 l20000_1.length k20000_1]), (20000, o48 o20000_1 k20000_1 l20000_1)]) (RunsTo.mk [(0, { sp := some (.int .i64 ((v16_1 + 1 : Nat) : Int)) })] [1, 2, 7, 8, 14, 15, 16] [1, 2, 3, 4, 20000] (fun _ => [((.int .i64 (IntKind.i64.wrap (((v16_1 : Nat) : Int) + 1))) : Value) = .int .i64 ((v16_1 + 1 : Nat) : Int)]) (fun _ => by kernel_rfl) (fun _ => ⟨natw (drop_lt hd50) g51, trivial⟩)) ?_
      intro _
      refine GS.inLoop ?_
      refine GS.rekey (env' := [(1, .slice a1_o a1.length a1_c), (2, .slice a2_o a2.length a2_c), (7, .pointer (some ⟨(fr2 0).x, 0, none⟩)), (8, .func (.func 35) #[] #[.pointer (some ⟨(fr2 0).x, 0, none⟩)]), (14, .slice a0_o a0.length a0_c), (15, .int .i64 ((a0.length : Nat) : Int)), (16, .int .i64 ((v16_1 + 1 : Nat) : Int))]) (mem' := [(1, r48 a0_o a0), (2, r48 a1_o a1), (3, r9 a2_o a2), (4, .cells ((fr2 0).x) 29 [.slice o20000_1 l20000_1.length k20000_1]), (20000, o48 o20000_1 k20000_1 l20000_1)]) [1, 2, 7, 8, 14, 15, 16] [(1, 1), (2, 2), (3, 3), (4, 4), (20000, 20000)] (by kernel_rfl) (by kernel_rfl) rfl ?_
      exact ih79 ⟨rs78, v16_1 + 1, l20000_1, o20000_1, k20000_1⟩ ⟨drop_next hd50, hm⟩ (Nat.lt_succ_self _)

end Go.Proofs.Yticlccnajfjdeaa
