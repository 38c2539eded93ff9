/-
  CHAPTER 20: the functions do what their models say (5).
-/
import Derived.Test.YticlccnajfjdeaaW20d
set_option linter.unusedVariables false
set_option linter.unusedSimpArgs false
set_option maxRecDepth 100000
namespace Go.Proofs.Yticlccnajfjdeaa
open Go Go.RowKit Sx

theorem w_tholelaw20_awake (F : Nat) {y : Bool} (hm : m_tholelaw20_awake F = some y) : CallG Try.prog 8 #[] (X := Unit) (fun (_ : Unit) => .bool y) [] [] (fun (_ : Unit) => []) := by
  intro w hg
  rw [m_tholelaw20_awake] at hm
  refine GS.start (S := mayT [] []) (mem := []) Try.func8 rfl Try.ntmps8 (Nat.le_of_ble_eq_true rfl) (hg.start rfl) ?_
  refine GS.conv (env' := []) rfl rfl ?_
  refine GS.seq ?_
  refine GS.region (env' := fun _ => []) (mem' := fun _ => []) (RunsTo.mk [] [] [] (fun _ => []) (fun _ => by kernel_rfl) (fun _ => trivial)) ?_
  intro _
  refine GS.seq ?_
  refine GS.region (env' := fun fr2 => [(1, .pointer (some ⟨(fr2 6).x, 0, none⟩))]) (mem' := fun fr2 => [(1, .osl (some (Addr.mk (fr2 4).x 0 none)) 2 48 4 ([[.string (ByteArray.mk #[97]), .int .i64 1, .int .i64 1, .int .u32 0], [.string (ByteArray.mk #[99]), .int .i64 1, .int .i64 2, .int .u32 0]] : List (List Value))), (2, .cells ((fr2 6).x) 31 [.int .i64 0, .int .i64 0, .int .i64 0, .slice none 0 0, .slice none 0 0, .slice (some (Addr.mk (fr2 4).x 0 none)) ([(S_api_Item.mk (ByteArray.mk #[97]) (S_api_Version.mk 1 1) 0), (S_api_Item.mk (ByteArray.mk #[99]) (S_api_Version.mk 1 2) 0)].length) 2])]) (RunsTo.mk [(4, { act := .new (.row 2 4), key := some 1, spf := some (fun f => .slice (some (Addr.mk f.x 0 none)) ([(S_api_Item.mk (ByteArray.mk #[97]) (S_api_Version.mk 1 1) 0), (S_api_Item.mk (ByteArray.mk #[99]) (S_api_Version.mk 1 2) 0)].length) 2) }), (6, { act := .new .var, key := some 2 }), (7, { act := .store 0 0 [], key := some 2 })] [1] [1, 2] (fun fr2 => [((.slice (some (Addr.mk (fr2 4).x 0 none)) 2 2) : Value) = .slice (some (Addr.mk (fr2 4).x 0 none)) ([(S_api_Item.mk (ByteArray.mk #[97]) (S_api_Version.mk 1 1) 0), (S_api_Item.mk (ByteArray.mk #[99]) (S_api_Version.mk 1 2) 0)].length) 2, (fr2 6).x = (fr2 6).x, ((.agg #[.int .i64 0, .int .i64 0, .int .i64 0, .slice none 0 0, .slice none 0 0, .slice (some (Addr.mk (fr2 4).x 0 none)) ([(S_api_Item.mk (ByteArray.mk #[97]) (S_api_Version.mk 1 1) 0), (S_api_Item.mk (ByteArray.mk #[99]) (S_api_Version.mk 1 2) 0)].length) 2]) : Value).cells.toList.all Value.oneCell' = true]) (fun fr2 => by kernel_rfl) (fun fr2 => ⟨rfl, rfl, rfl, trivial⟩)) ?_
  intro fr2
  refine GS.conv (mem' := [(1, o48 (some (Addr.mk (fr2 4).x 0 none)) 2 [(S_api_Item.mk (ByteArray.mk #[97]) (S_api_Version.mk 1 1) 0), (S_api_Item.mk (ByteArray.mk #[99]) (S_api_Version.mk 1 2) 0)]), (2, .cells ((fr2 6).x) 31 [.int .i64 0, .int .i64 0, .int .i64 0, .slice none 0 0, .slice none 0 0, .slice (some (Addr.mk (fr2 4).x 0 none)) ([(S_api_Item.mk (ByteArray.mk #[97]) (S_api_Version.mk 1 1) 0), (S_api_Item.mk (ByteArray.mk #[99]) (S_api_Version.mk 1 2) 0)].length) 2])]) rfl (congrArg (fun rr : List (List Value) => ([(1, .osl (some (Addr.mk (fr2 4).x 0 none)) 2 48 4 rr), (2, .cells ((fr2 6).x) 31 [.int .i64 0, .int .i64 0, .int .i64 0, .slice none 0 0, .slice none 0 0, .slice (some (Addr.mk (fr2 4).x 0 none)) ([(S_api_Item.mk (ByteArray.mk #[97]) (S_api_Version.mk 1 1) 0), (S_api_Item.mk (ByteArray.mk #[99]) (S_api_Version.mk 1 2) 0)].length) 2])] : List (Nat × Ent))) (show ([[.string (ByteArray.mk #[97]), .int .i64 1, .int .i64 1, .int .u32 0], [.string (ByteArray.mk #[99]), .int .i64 1, .int .i64 2, .int .u32 0]] : List (List Value)) = List.map S_api_Item.row [(S_api_Item.mk (ByteArray.mk #[97]) (S_api_Version.mk 1 1) 0), (S_api_Item.mk (ByteArray.mk #[99]) (S_api_Version.mk 1 2) 0)] from rfl)) ?_
  refine GS.seq ?_
  refine GS.region (env' := fun fr3 => [(1, .pointer (some ⟨(fr2 6).x, 0, none⟩)), (2, .pointer (some ⟨(fr3 6).x, 0, none⟩))]) (mem' := fun fr3 => [(1, o48 (some (Addr.mk (fr2 4).x 0 none)) 2 [(S_api_Item.mk (ByteArray.mk #[97]) (S_api_Version.mk 1 1) 0), (S_api_Item.mk (ByteArray.mk #[99]) (S_api_Version.mk 1 2) 0)]), (2, .cells ((fr2 6).x) 31 [.int .i64 0, .int .i64 0, .int .i64 0, .slice none 0 0, .slice none 0 0, .slice (some (Addr.mk (fr2 4).x 0 none)) ([(S_api_Item.mk (ByteArray.mk #[97]) (S_api_Version.mk 1 1) 0), (S_api_Item.mk (ByteArray.mk #[99]) (S_api_Version.mk 1 2) 0)].length) 2]), (3, .osl (some (Addr.mk (fr3 4).x 0 none)) 2 48 4 ([[.string (ByteArray.mk #[97]), .int .i64 2, .int .i64 1, .int .u32 0], [.string (ByteArray.mk #[98]), .int .i64 2, .int .i64 2, .int .u32 0]] : List (List Value))), (4, .cells ((fr3 6).x) 31 [.int .i64 0, .int .i64 0, .int .i64 0, .slice none 0 0, .slice none 0 0, .slice (some (Addr.mk (fr3 4).x 0 none)) ([(S_api_Item.mk (ByteArray.mk #[97]) (S_api_Version.mk 2 1) 0), (S_api_Item.mk (ByteArray.mk #[98]) (S_api_Version.mk 2 2) 0)].length) 2])]) (RunsTo.mk [(4, { act := .new (.row 2 4), key := some 3, spf := some (fun f => .slice (some (Addr.mk f.x 0 none)) ([(S_api_Item.mk (ByteArray.mk #[97]) (S_api_Version.mk 2 1) 0), (S_api_Item.mk (ByteArray.mk #[98]) (S_api_Version.mk 2 2) 0)].length) 2) }), (6, { act := .new .var, key := some 4 }), (7, { act := .store 0 0 [], key := some 4 })] [1, 2] [1, 2, 3, 4] (fun fr3 => [((.slice (some (Addr.mk (fr3 4).x 0 none)) 2 2) : Value) = .slice (some (Addr.mk (fr3 4).x 0 none)) ([(S_api_Item.mk (ByteArray.mk #[97]) (S_api_Version.mk 2 1) 0), (S_api_Item.mk (ByteArray.mk #[98]) (S_api_Version.mk 2 2) 0)].length) 2, (fr3 6).x = (fr3 6).x, ((.agg #[.int .i64 0, .int .i64 0, .int .i64 0, .slice none 0 0, .slice none 0 0, .slice (some (Addr.mk (fr3 4).x 0 none)) ([(S_api_Item.mk (ByteArray.mk #[97]) (S_api_Version.mk 2 1) 0), (S_api_Item.mk (ByteArray.mk #[98]) (S_api_Version.mk 2 2) 0)].length) 2]) : Value).cells.toList.all Value.oneCell' = true]) (fun fr3 => by kernel_rfl) (fun fr3 => ⟨rfl, rfl, rfl, trivial⟩)) ?_
  intro fr3
  refine GS.conv (mem' := [(1, o48 (some (Addr.mk (fr2 4).x 0 none)) 2 [(S_api_Item.mk (ByteArray.mk #[97]) (S_api_Version.mk 1 1) 0), (S_api_Item.mk (ByteArray.mk #[99]) (S_api_Version.mk 1 2) 0)]), (2, .cells ((fr2 6).x) 31 [.int .i64 0, .int .i64 0, .int .i64 0, .slice none 0 0, .slice none 0 0, .slice (some (Addr.mk (fr2 4).x 0 none)) ([(S_api_Item.mk (ByteArray.mk #[97]) (S_api_Version.mk 1 1) 0), (S_api_Item.mk (ByteArray.mk #[99]) (S_api_Version.mk 1 2) 0)].length) 2]), (3, o48 (some (Addr.mk (fr3 4).x 0 none)) 2 [(S_api_Item.mk (ByteArray.mk #[97]) (S_api_Version.mk 2 1) 0), (S_api_Item.mk (ByteArray.mk #[98]) (S_api_Version.mk 2 2) 0)]), (4, .cells ((fr3 6).x) 31 [.int .i64 0, .int .i64 0, .int .i64 0, .slice none 0 0, .slice none 0 0, .slice (some (Addr.mk (fr3 4).x 0 none)) ([(S_api_Item.mk (ByteArray.mk #[97]) (S_api_Version.mk 2 1) 0), (S_api_Item.mk (ByteArray.mk #[98]) (S_api_Version.mk 2 2) 0)].length) 2])]) rfl (congrArg (fun rr : List (List Value) => ([(1, o48 (some (Addr.mk (fr2 4).x 0 none)) 2 [(S_api_Item.mk (ByteArray.mk #[97]) (S_api_Version.mk 1 1) 0), (S_api_Item.mk (ByteArray.mk #[99]) (S_api_Version.mk 1 2) 0)]), (2, .cells ((fr2 6).x) 31 [.int .i64 0, .int .i64 0, .int .i64 0, .slice none 0 0, .slice none 0 0, .slice (some (Addr.mk (fr2 4).x 0 none)) ([(S_api_Item.mk (ByteArray.mk #[97]) (S_api_Version.mk 1 1) 0), (S_api_Item.mk (ByteArray.mk #[99]) (S_api_Version.mk 1 2) 0)].length) 2]), (3, .osl (some (Addr.mk (fr3 4).x 0 none)) 2 48 4 rr), (4, .cells ((fr3 6).x) 31 [.int .i64 0, .int .i64 0, .int .i64 0, .slice none 0 0, .slice none 0 0, .slice (some (Addr.mk (fr3 4).x 0 none)) ([(S_api_Item.mk (ByteArray.mk #[97]) (S_api_Version.mk 2 1) 0), (S_api_Item.mk (ByteArray.mk #[98]) (S_api_Version.mk 2 2) 0)].length) 2])] : List (Nat × Ent))) (show ([[.string (ByteArray.mk #[97]), .int .i64 2, .int .i64 1, .int .u32 0], [.string (ByteArray.mk #[98]), .int .i64 2, .int .i64 2, .int .u32 0]] : List (List Value)) = List.map S_api_Item.row [(S_api_Item.mk (ByteArray.mk #[97]) (S_api_Version.mk 2 1) 0), (S_api_Item.mk (ByteArray.mk #[98]) (S_api_Version.mk 2 2) 0)] from rfl)) ?_
  refine GS.seq ?_
  refine bnd_elim hm (fun y5 e6 hm => ?_)
  refine GS.open_ ?_
  refine GR.run (i := 0) 2 (env' := fun _ => [(20, .agg #[.int .i64 0, .int .i64 0, .int .i64 0, .slice none 0 0, .slice none 0 0, .slice (some (Addr.mk (fr2 4).x 0 none)) ([(S_api_Item.mk (ByteArray.mk #[97]) (S_api_Version.mk 1 1) 0), (S_api_Item.mk (ByteArray.mk #[99]) (S_api_Version.mk 1 2) 0)].length) 2]), (21, .agg #[.int .i64 0, .int .i64 0, .int .i64 0, .slice none 0 0, .slice none 0 0, .slice (some (Addr.mk (fr3 4).x 0 none)) ([(S_api_Item.mk (ByteArray.mk #[97]) (S_api_Version.mk 2 1) 0), (S_api_Item.mk (ByteArray.mk #[98]) (S_api_Version.mk 2 2) 0)].length) 2])]) (mem' := fun _ => [(1, o48 (some (Addr.mk (fr2 4).x 0 none)) 2 [(S_api_Item.mk (ByteArray.mk #[97]) (S_api_Version.mk 1 1) 0), (S_api_Item.mk (ByteArray.mk #[99]) (S_api_Version.mk 1 2) 0)]), (3, o48 (some (Addr.mk (fr3 4).x 0 none)) 2 [(S_api_Item.mk (ByteArray.mk #[97]) (S_api_Version.mk 2 1) 0), (S_api_Item.mk (ByteArray.mk #[98]) (S_api_Version.mk 2 2) 0)])]) (Nat.le_of_ble_eq_true (by kernel_rfl)) (RunsTo.mk [(0, { act := .load 2 0 0 [] }), (1, { act := .load 4 0 0 [] })] [20, 21] [1, 3] (fun _ => [(fr2 6).x = (fr2 6).x, (fr3 6).x = (fr3 6).x]) (fun _ => by kernel_rfl) (fun _ => ⟨rfl, rfl, trivial⟩)) ?_
  intro _
  refine GR.callG (X := Option Addr × Nat × Option Addr × Nat) (i := 2) (g := 11) (args := #[.agg #[.int .i64 0, .int .i64 0, .int .i64 0, .slice none 0 0, .slice none 0 0, .slice (some (Addr.mk (fr2 4).x 0 none)) ([(S_api_Item.mk (ByteArray.mk #[97]) (S_api_Version.mk 1 1) 0), (S_api_Item.mk (ByteArray.mk #[99]) (S_api_Version.mk 1 2) 0)].length) 2], .agg #[.int .i64 0, .int .i64 0, .int .i64 0, .slice none 0 0, .slice none 0 0, .slice (some (Addr.mk (fr3 4).x 0 none)) ([(S_api_Item.mk (ByteArray.mk #[97]) (S_api_Version.mk 2 1) 0), (S_api_Item.mk (ByteArray.mk #[98]) (S_api_Version.mk 2 2) 0)].length) 2]]) (v := fun ⟨x7, x8, x9, x10⟩ => .tuple #[.slice x7 y5.1.length x8, .slice x9 y5.2.length x10]) (own := []) (ro := [r58 none ([] : List S_api_Entry), r78 none ([] : List S_api_Last), r48 (some (Addr.mk (fr2 4).x 0 none)) [(S_api_Item.mk (ByteArray.mk #[97]) (S_api_Version.mk 1 1) 0), (S_api_Item.mk (ByteArray.mk #[99]) (S_api_Version.mk 1 2) 0)], r58 none ([] : List S_api_Entry), r78 none ([] : List S_api_Last), r48 (some (Addr.mk (fr3 4).x 0 none)) [(S_api_Item.mk (ByteArray.mk #[97]) (S_api_Version.mk 2 1) 0), (S_api_Item.mk (ByteArray.mk #[98]) (S_api_Version.mk 2 2) 0)]]) (es' := fun ⟨x7, x8, x9, x10⟩ => [o48 x7 x8 y5.1, o9 x9 x10 y5.2]) (mem' := fun ⟨x7, x8, x9, x10⟩ => [(1, o48 (some (Addr.mk (fr2 4).x 0 none)) 2 [(S_api_Item.mk (ByteArray.mk #[97]) (S_api_Version.mk 1 1) 0), (S_api_Item.mk (ByteArray.mk #[99]) (S_api_Version.mk 1 2) 0)]), (3, o48 (some (Addr.mk (fr3 4).x 0 none)) 2 [(S_api_Item.mk (ByteArray.mk #[97]) (S_api_Version.mk 2 1) 0), (S_api_Item.mk (ByteArray.mk #[98]) (S_api_Version.mk 2 2) 0)]), (5, o48 x7 x8 y5.1), (6, o9 x9 x10 y5.2)]) (env' := fun ⟨x7, x8, x9, x10⟩ => [(22, .tuple #[.slice x7 y5.1.length x8, .slice x9 y5.2.length x10])]) [] [5, 6] [22] [1, 3, 5, 6] false (by kernel_rfl) (by kernel_rfl) (by kernel_rfl) (by kernel_rfl) (by kernel_rfl) (fun _ => rfl) (fun _ _ => rfl) ⟨(.inr NilE.rd), (.inr NilE.rd), (.inl ⟨1, _, rfl, rfl, Cov.osl_rd, fun h => by cases h⟩), (.inr NilE.rd), (.inr NilE.rd), (.inl ⟨3, _, rfl, rfl, Cov.osl_rd, fun h => by cases h⟩), trivial⟩ (by rintro ⟨x7, x8, x9, x10⟩; kernel_rfl) (by rintro ⟨x7, x8, x9, x10⟩; kernel_rfl) (w_backfill_Plan F 0 (S_api_Version.mk 0 0) none 0 ([] : List S_api_Entry) none 0 ([] : List S_api_Last) (some (Addr.mk (fr2 4).x 0 none)) 2 [(S_api_Item.mk (ByteArray.mk #[97]) (S_api_Version.mk 1 1) 0), (S_api_Item.mk (ByteArray.mk #[99]) (S_api_Version.mk 1 2) 0)] 0 (S_api_Version.mk 0 0) none 0 ([] : List S_api_Entry) none 0 ([] : List S_api_Last) (some (Addr.mk (fr3 4).x 0 none)) 2 [(S_api_Item.mk (ByteArray.mk #[97]) (S_api_Version.mk 2 1) 0), (S_api_Item.mk (ByteArray.mk #[98]) (S_api_Version.mk 2 2) 0)] e6) ?_
  rintro ⟨x7, x8, x9, x10⟩
  refine GR.run (i := 3) 5 (env' := fun _ => [(3, .slice x7 y5.1.length x8), (4, .slice x9 y5.2.length x10)]) (mem' := fun _ => [(5, o48 x7 x8 y5.1), (6, o9 x9 x10 y5.2)]) (Nat.le_of_ble_eq_true (by kernel_rfl)) (RunsTo.mk [] [3, 4] [5, 6] (fun _ => []) (fun _ => by kernel_rfl) (fun _ => trivial)) ?_
  intro _
  refine GR.done (Nat.le_of_ble_eq_true (by kernel_rfl)) ?_
  refine GS.seq ?_
  refine bnd_elim hm (fun y13 e14 hm => ?_)
  refine GS.open_ ?_
  refine GR.run (i := 0) 1 (env' := fun _ => [(3, .slice x7 y5.1.length x8), (4, .slice x9 y5.2.length x10), (26, .slice x7 y5.1.length x8)]) (mem' := fun _ => [(5, o48 x7 x8 y5.1), (6, o9 x9 x10 y5.2)]) (Nat.le_of_ble_eq_true (by kernel_rfl)) (RunsTo.mk [] [3, 4, 26] [5, 6] (fun _ => []) (fun _ => by kernel_rfl) (fun _ => trivial)) ?_
  intro _
  refine GR.callG (X := Option Addr × Nat) (i := 1) (g := 14) (args := #[.slice x7 y5.1.length x8, .string (ByteArray.mk #[]), .int .i64 1]) (v := fun ⟨x15, x16⟩ => .tuple #[.slice x15 y13.1.length x16, .bool y13.2]) (own := []) (ro := [r48 x7 y5.1]) (es' := fun ⟨x15, x16⟩ => [o48 x15 x16 y13.1]) (mem' := fun ⟨x15, x16⟩ => [(5, o48 x7 x8 y5.1), (6, o9 x9 x10 y5.2), (7, o48 x15 x16 y13.1)]) (env' := fun ⟨x15, x16⟩ => [(3, .slice x7 y5.1.length x8), (4, .slice x9 y5.2.length x10), (27, .tuple #[.slice x15 y13.1.length x16, .bool y13.2])]) [] [7] [3, 4, 27] [5, 6, 7] false (by kernel_rfl) (by kernel_rfl) (by kernel_rfl) (by kernel_rfl) (by kernel_rfl) (fun _ => rfl) (fun _ _ => rfl) ⟨(.inl ⟨5, _, rfl, rfl, Cov.osl_rd, fun h => by cases h⟩), trivial⟩ (by rintro ⟨x15, x16⟩; kernel_rfl) (by rintro ⟨x15, x16⟩; kernel_rfl) (w_backfill_Batch F x7 x8 y5.1 (ByteArray.mk #[]) 1 e14) ?_
  rintro ⟨x15, x16⟩
  refine GR.run (i := 2) 5 (env' := fun _ => [(3, .slice x7 y5.1.length x8), (4, .slice x9 y5.2.length x10), (5, .slice x15 y13.1.length x16), (6, .bool y13.2)]) (mem' := fun _ => [(5, o48 x7 x8 y5.1), (6, o9 x9 x10 y5.2), (7, o48 x15 x16 y13.1)]) (Nat.le_of_ble_eq_true (by kernel_rfl)) (RunsTo.mk [] [3, 4, 5, 6] [5, 6, 7] (fun _ => []) (fun _ => by kernel_rfl) (fun _ => trivial)) ?_
  intro _
  refine GR.done (Nat.le_of_ble_eq_true (by kernel_rfl)) ?_
  refine GS.seq ?_
  refine br_elim hm (fun h19 hm => ?_) (fun h19 hm => ?_)
  · skip
    refine br_elim hm (fun h20 hm => ?_) (fun h20 hm => ?_)
    · skip
      refine grd_elim hm (fun g21 hm => ?_)
      refine br_elim hm (fun h22 hm => ?_) (fun h22 hm => ?_)
      · skip
        refine br_elim hm (fun h23 hm => ?_) (fun h23 hm => ?_)
        · skip
          refine GS.region (env' := fun _ => [(0, .bool y13.2)]) (mem' := fun _ => []) (RunsTo.mk [(3, { sp := some (.bool true) }), (8, { sp := some (.bool true) }), (10, { act := .idx 6 0 }), (11, { act := .load 6 0 0 [.string (y5.2.getD 0 (ByteArray.mk #[]))] }), (14, { sp := some (.bool true) }), (19, { sp := some (.bool true) })] [0] [] (fun _ => [((.bool (((y5.1.length : Nat) : Int) == 2)) : Value) = .bool true, ((.bool (((y5.2.length : Nat) : Int) == 1)) : Value) = .bool true, x9 = x9, y5.2.length = (List.map rS y5.2).length, (0 : Int) = ((0 : Nat) : Int), 0 < y5.2.length, blk x9 = blk x9, offs x9 + 0 * 1 = offs x9 + (0 * 1 + 0), (List.map rS y5.2)[0]? = some [.string (y5.2.getD 0 (ByteArray.mk #[]))], ((.bool ((y5.2.getD 0 (ByteArray.mk #[])).toList == (ByteArray.mk #[99]).toList)) : Value) = .bool true, ((.bool (((y13.1.length : Nat) : Int) == 1)) : Value) = .bool true]) (fun _ => by kernel_rfl) (fun _ => ⟨bool_eq h19, bool_eq h20, rfl, mlen rS y5.2, rfl, g21, rfl, rfl, map_at rS (ByteArray.mk #[]) g21, bool_eq h22, bool_eq h23, trivial⟩)) ?_
          intro _
          have hy := Option.some.inj hm
          subst hy
          refine GS.ret (fn := Try.f8) [0] [.bool y13.2] [] rfl Try.func8 (by kernel_rfl) trivial (fun w' hs => ?_)
          exact ⟨(), rfl, hs.turnedG (ks := []) rfl rfl⟩
        · skip
          refine GS.region (env' := fun _ => [(0, .bool false)]) (mem' := fun _ => []) (RunsTo.mk [(3, { sp := some (.bool true) }), (8, { sp := some (.bool true) }), (10, { act := .idx 6 0 }), (11, { act := .load 6 0 0 [.string (y5.2.getD 0 (ByteArray.mk #[]))] }), (14, { sp := some (.bool true) }), (19, { sp := some (.bool false) })] [0] [] (fun _ => [((.bool (((y5.1.length : Nat) : Int) == 2)) : Value) = .bool true, ((.bool (((y5.2.length : Nat) : Int) == 1)) : Value) = .bool true, x9 = x9, y5.2.length = (List.map rS y5.2).length, (0 : Int) = ((0 : Nat) : Int), 0 < y5.2.length, blk x9 = blk x9, offs x9 + 0 * 1 = offs x9 + (0 * 1 + 0), (List.map rS y5.2)[0]? = some [.string (y5.2.getD 0 (ByteArray.mk #[]))], ((.bool ((y5.2.getD 0 (ByteArray.mk #[])).toList == (ByteArray.mk #[99]).toList)) : Value) = .bool true, ((.bool (((y13.1.length : Nat) : Int) == 1)) : Value) = .bool false]) (fun _ => by kernel_rfl) (fun _ => ⟨bool_eq h19, bool_eq h20, rfl, mlen rS y5.2, rfl, g21, rfl, rfl, map_at rS (ByteArray.mk #[]) g21, bool_eq h22, bool_eq h23, trivial⟩)) ?_
          intro _
          have hy := Option.some.inj hm
          subst hy
          refine GS.ret (fn := Try.f8) [0] [.bool false] [] rfl Try.func8 (by kernel_rfl) trivial (fun w' hs => ?_)
          exact ⟨(), rfl, hs.turnedG (ks := []) rfl rfl⟩
      · skip
        refine GS.region (env' := fun _ => [(0, .bool false)]) (mem' := fun _ => []) (RunsTo.mk [(3, { sp := some (.bool true) }), (8, { sp := some (.bool true) }), (10, { act := .idx 6 0 }), (11, { act := .load 6 0 0 [.string (y5.2.getD 0 (ByteArray.mk #[]))] }), (14, { sp := some (.bool false) })] [0] [] (fun _ => [((.bool (((y5.1.length : Nat) : Int) == 2)) : Value) = .bool true, ((.bool (((y5.2.length : Nat) : Int) == 1)) : Value) = .bool true, x9 = x9, y5.2.length = (List.map rS y5.2).length, (0 : Int) = ((0 : Nat) : Int), 0 < y5.2.length, blk x9 = blk x9, offs x9 + 0 * 1 = offs x9 + (0 * 1 + 0), (List.map rS y5.2)[0]? = some [.string (y5.2.getD 0 (ByteArray.mk #[]))], ((.bool ((y5.2.getD 0 (ByteArray.mk #[])).toList == (ByteArray.mk #[99]).toList)) : Value) = .bool false]) (fun _ => by kernel_rfl) (fun _ => ⟨bool_eq h19, bool_eq h20, rfl, mlen rS y5.2, rfl, g21, rfl, rfl, map_at rS (ByteArray.mk #[]) g21, bool_eq h22, trivial⟩)) ?_
        intro _
        have hy := Option.some.inj hm
        subst hy
        refine GS.ret (fn := Try.f8) [0] [.bool false] [] rfl Try.func8 (by kernel_rfl) trivial (fun w' hs => ?_)
        exact ⟨(), rfl, hs.turnedG (ks := []) rfl rfl⟩
    · skip
      refine GS.region (env' := fun _ => [(0, .bool false)]) (mem' := fun _ => []) (RunsTo.mk [(3, { sp := some (.bool true) }), (8, { sp := some (.bool false) })] [0] [] (fun _ => [((.bool (((y5.1.length : Nat) : Int) == 2)) : Value) = .bool true, ((.bool (((y5.2.length : Nat) : Int) == 1)) : Value) = .bool false]) (fun _ => by kernel_rfl) (fun _ => ⟨bool_eq h19, bool_eq h20, trivial⟩)) ?_
      intro _
      have hy := Option.some.inj hm
      subst hy
      refine GS.ret (fn := Try.f8) [0] [.bool false] [] rfl Try.func8 (by kernel_rfl) trivial (fun w' hs => ?_)
      exact ⟨(), rfl, hs.turnedG (ks := []) rfl rfl⟩
  · skip
    refine GS.region (env' := fun _ => [(0, .bool false)]) (mem' := fun _ => []) (RunsTo.mk [(3, { sp := some (.bool false) })] [0] [] (fun _ => [((.bool (((y5.1.length : Nat) : Int) == 2)) : Value) = .bool false]) (fun _ => by kernel_rfl) (fun _ => ⟨bool_eq h19, trivial⟩)) ?_
    intro _
    have hy := Option.some.inj hm
    subst hy
    refine GS.ret (fn := Try.f8) [0] [.bool false] [] rfl Try.func8 (by kernel_rfl) trivial (fun w' hs => ?_)
    exact ⟨(), rfl, hs.turnedG (ks := []) rfl rfl⟩

theorem w_tholeref20_sorted (F : Nat) (a0_o : Option Addr) (a0_c : Nat) (a0 : List S_api_Item) {y : List S_api_Item} (hm : m_tholeref20_sorted F a0 = some y) : CallG Try.prog 30 #[.slice a0_o a0.length a0_c] (X := Option Addr × Nat) (fun ⟨x0, x1⟩ => .slice x0 y.length x1) [] [r48 a0_o a0] (fun ⟨x0, x1⟩ => [o48 x0 x1 y]) := by
  intro w hg
  rw [m_tholeref20_sorted] at hm
  refine GS.start (S := mayT [] [r48 a0_o a0]) (mem := [(1, r48 a0_o a0)]) Try.func30 rfl Try.ntmps30 (Nat.le_of_ble_eq_true rfl) (hg.start rfl) ?_
  refine GS.conv (env' := [(0, .slice a0_o a0.length a0_c)]) rfl rfl ?_
  refine GS.seq ?_
  refine GS.region (env' := fun _ => [(0, .slice a0_o a0.length a0_c)]) (mem' := fun _ => [(1, r48 a0_o a0)]) (RunsTo.mk [] [0] [1] (fun _ => []) (fun _ => by kernel_rfl) (fun _ => trivial)) ?_
  intro _
  refine GS.seq ?_
  refine GS.region (env' := fun _ => [(0, .slice a0_o a0.length a0_c), (3, .slice none 0 0)]) (mem' := fun _ => [(1, r48 a0_o a0)]) (RunsTo.mk [] [0, 3] [1] (fun _ => []) (fun _ => by kernel_rfl) (fun _ => trivial)) ?_
  intro _
  refine GS.seq ?_
  refine GS.seq ?_
  refine GS.region (env' := fun _ => [(3, .slice none 0 0), (7, .slice a0_o a0.length a0_c), (8, .int .i64 ((a0.length : Nat) : Int)), (9, .int .i64 0)]) (mem' := fun _ => [(1, r48 a0_o a0)]) (RunsTo.mk [] [3, 7, 8, 9] [1] (fun _ => []) (fun _ => by kernel_rfl) (fun _ => trivial)) ?_
  intro _
  refine GS.block ?_
  refine GS.loop ?_
  refine grd_elim hm (fun g70 hm => ?_)
  refine GS.setMem (mem' := [(1, r48 a0_o a0), (20001, o48 none 0 ([] : List S_api_Item))]) (fun w hw => Sat.addNil hw rfl) ?_
  refine GS.rekey (env' := [(3, .slice none 0 0), (7, .slice a0_o a0.length a0_c), (8, .int .i64 ((a0.length : Nat) : Int)), (9, .int .i64 0)]) (mem' := [(1, r48 a0_o a0), (20000, o48 none 0 ([] : List S_api_Item))]) [3, 7, 8, 9] [(1, 1), (20000, 20001)] (by kernel_rfl) (by kernel_rfl) rfl ?_
  refine loopL_elim hm (fun st128 fn129 hst130 hfn131 hm => ?_)
  refine GS.loopInv (ι := List S_api_Item × Nat × List S_api_Item × Option Addr × Nat) (I := fun ⟨rs126, v9_1, l20000_1, o20000_1, k20000_1⟩ => a0.drop v9_1 = rs126 ∧ loopL st128 fn129 rs126 v9_1 l20000_1 = some y) (μ := fun ⟨rs126, v9_1, l20000_1, o20000_1, k20000_1⟩ => rs126.length) (E := fun ⟨rs126, v9_1, l20000_1, o20000_1, k20000_1⟩ => [(3, .slice o20000_1 l20000_1.length k20000_1), (7, .slice a0_o a0.length a0_c), (8, .int .i64 ((a0.length : Nat) : Int)), (9, .int .i64 ((v9_1 : Nat) : Int))]) (M := fun ⟨rs126, v9_1, l20000_1, o20000_1, k20000_1⟩ => [(1, r48 a0_o a0), (20000, o48 o20000_1 k20000_1 l20000_1)]) ?_ ⟨a0, 0, ([] : List S_api_Item), none, 0⟩ ⟨List.drop_zero .., hm⟩
  rintro ⟨rs126, v9_1, l20000_1, o20000_1, k20000_1⟩ ⟨hd69, hm⟩ ih127
  cases rs126 with
  | nil =>
    replace hm := (hfn131 _ _).symm.trans hm
    try dsimp only at hm
    refine GS.seq ?_
    refine GS.region (env' := fun _ => [(3, .slice o20000_1 l20000_1.length k20000_1), (7, .slice a0_o a0.length a0_c), (8, .int .i64 ((a0.length : Nat) : Int)), (9, .int .i64 ((v9_1 : Nat) : Int)), (10, .bool (decide (((v9_1 : Nat) : Int) < ((a0.length : Nat) : Int))))]) (mem' := fun _ => [(1, r48 a0_o a0), (20000, o48 o20000_1 k20000_1 l20000_1)]) (RunsTo.mk [] [3, 7, 8, 9, 10] [1, 20000] (fun _ => []) (fun _ => by kernel_rfl) (fun _ => trivial)) ?_
    intro _
    refine GS.seq ?_
    refine GS.cond (t := decide (((v9_1 : Nat) : Int) < ((a0.length : Nat) : Int))) rfl rfl (fun h124 => absb h124 (drop_dec0 hd69)) (fun _ => ?_)
    refine GS.exit rfl ?_
    refine GS.seq ?_
    refine GS.region (env' := fun _ => [(2, .slice o20000_1 l20000_1.length k20000_1)]) (mem' := fun _ => [(20000, o48 o20000_1 k20000_1 l20000_1)]) (RunsTo.mk [] [2] [20000] (fun _ => []) (fun _ => by kernel_rfl) (fun _ => trivial)) ?_
    intro _
    have hy := Option.some.inj hm
    subst hy
    refine GS.ret (fn := Try.f30) [0] [.slice o20000_1 l20000_1.length k20000_1] [] rfl Try.func30 (by kernel_rfl) trivial (fun w' hs => ?_)
    exact ⟨⟨o20000_1, k20000_1⟩, rfl, hs.turnedG (ks := [20000]) rfl rfl⟩
  | cons x71 rs126 =>
    replace hm := (hst130 _ _ _ _).symm.trans hm
    try dsimp only at hm
    refine GS.seq ?_
    refine GS.region (env' := fun _ => [(3, .slice o20000_1 l20000_1.length k20000_1), (7, .slice a0_o a0.length a0_c), (8, .int .i64 ((a0.length : Nat) : Int)), (9, .int .i64 ((v9_1 : Nat) : Int)), (10, .bool (decide (((v9_1 : Nat) : Int) < ((a0.length : Nat) : Int))))]) (mem' := fun _ => [(1, r48 a0_o a0), (20000, o48 o20000_1 k20000_1 l20000_1)]) (RunsTo.mk [] [3, 7, 8, 9, 10] [1, 20000] (fun _ => []) (fun _ => by kernel_rfl) (fun _ => trivial)) ?_
    intro _
    refine GS.seq ?_
    refine GS.cond (t := decide (((v9_1 : Nat) : Int) < ((a0.length : Nat) : Int))) rfl rfl (fun _ => ?_) (fun h73 => absb (drop_dec hd69) h73)
    refine GS.skip ?_
    refine GS.seq ?_
    refine GS.block ?_
    refine GS.seq ?_
    refine GS.region (env' := fun fr74 => [(3, .slice o20000_1 l20000_1.length k20000_1), (5, .pointer (some ⟨(fr74 2).x, 0, none⟩)), (7, .slice a0_o a0.length a0_c), (8, .int .i64 ((a0.length : Nat) : Int)), (9, .int .i64 ((v9_1 : Nat) : Int))]) (mem' := fun fr74 => [(1, r48 a0_o a0), (20000, o48 o20000_1 k20000_1 l20000_1), (20001, .cells ((fr74 2).x) 48 [.string x71.Name, .int .i64 x71.Version.Epoch, .int .i64 x71.Version.N, .int .u32 x71.Crc])]) (RunsTo.mk [(0, { act := .idx 1 v9_1 }), (1, { act := .load 1 v9_1 0 [.string x71.Name, .int .i64 x71.Version.Epoch, .int .i64 x71.Version.N, .int .u32 x71.Crc] }), (2, { act := .new .var, key := some 20001 }), (3, { act := .store 0 0 [], key := some 20001 })] [3, 5, 7, 8, 9] [1, 20000, 20001] (fun fr74 => [a0_o = a0_o, a0.length = (List.map S_api_Item.row a0).length, (((v9_1 : Nat) : Int) : Int) = ((v9_1 : Nat) : Int), v9_1 < a0.length, blk a0_o = blk a0_o, offs a0_o + v9_1 * 4 = offs a0_o + (v9_1 * 4 + 0), (List.map S_api_Item.row a0)[v9_1]? = some [.string x71.Name, .int .i64 x71.Version.Epoch, .int .i64 x71.Version.N, .int .u32 x71.Crc], (fr74 2).x = (fr74 2).x, ((.agg #[.string x71.Name, .int .i64 x71.Version.Epoch, .int .i64 x71.Version.N, .int .u32 x71.Crc]) : Value).cells.toList.all Value.oneCell' = true]) (fun fr74 => by kernel_rfl) (fun fr74 => ⟨rfl, mlen S_api_Item.row a0, rfl, (drop_lt hd69), rfl, rfl, map_drop S_api_Item.row hd69, rfl, rfl, trivial⟩)) ?_
    intro fr74
    refine GS.seq ?_
    refine GS.region (env' := fun _ => [(3, .slice o20000_1 l20000_1.length k20000_1), (5, .pointer (some ⟨(fr74 2).x, 0, none⟩)), (6, .int .i64 ((l20000_1.length : Nat) : Int)), (7, .slice a0_o a0.length a0_c), (8, .int .i64 ((a0.length : Nat) : Int)), (9, .int .i64 ((v9_1 : Nat) : Int))]) (mem' := fun _ => [(1, r48 a0_o a0), (20000, o48 o20000_1 k20000_1 l20000_1), (20001, .cells ((fr74 2).x) 48 [.string x71.Name, .int .i64 x71.Version.Epoch, .int .i64 x71.Version.N, .int .u32 x71.Crc])]) (RunsTo.mk [] [3, 5, 6, 7, 8, 9] [1, 20000, 20001] (fun _ => []) (fun _ => by kernel_rfl) (fun _ => trivial)) ?_
    intro _
    refine GS.seq ?_
    refine grd_elim hm (fun g77 hm => ?_)
    refine GS.region (env' := fun fr76 => [(3, .slice ((fr76 3).ob) ((l20000_1 ++ [x71]).length) ((fr76 3).cap)), (5, .pointer (some ⟨(fr74 2).x, 0, none⟩)), (6, .int .i64 ((l20000_1.length : Nat) : Int)), (7, .slice a0_o a0.length a0_c), (8, .int .i64 ((a0.length : Nat) : Int)), (9, .int .i64 ((v9_1 : Nat) : Int))]) (mem' := fun fr76 => [(1, r48 a0_o a0), (20000, .osl ((fr76 3).ob) ((fr76 3).cap) 48 4 ((List.map S_api_Item.row l20000_1) ++ ([[.string x71.Name, .int .i64 x71.Version.Epoch, .int .i64 x71.Version.N, .int .u32 x71.Crc]] : List (List Value)))), (20001, .cells ((fr74 2).x) 48 [.string x71.Name, .int .i64 x71.Version.Epoch, .int .i64 x71.Version.N, .int .u32 x71.Crc])]) (RunsTo.mk [(1, { act := .load 20001 0 0 [] }), (2, { act := .new (.row 1 4), key := some 20002, spf := some (fun f => .slice (some (Addr.mk f.x 0 none)) ([x71].length) 1) }), (3, { act := .app (some 20002), key := some 20000, spf := some (fun f => .slice (f.ob) ((l20000_1 ++ [x71]).length) (f.cap)) })] [3, 5, 6, 7, 8, 9] [1, 20000, 20001] (fun fr76 => [(fr74 2).x = (fr74 2).x, ((.slice (some (Addr.mk (fr76 2).x 0 none)) 1 1) : Value) = .slice (some (Addr.mk (fr76 2).x 0 none)) ([x71].length) 1, (some (Addr.mk (fr76 2).x 0 none)) = (some (Addr.mk (fr76 2).x 0 none)), [x71].length = ([[.string x71.Name, .int .i64 x71.Version.Epoch, .int .i64 x71.Version.N, .int .u32 x71.Crc]] : List (List Value)).length, o20000_1 = o20000_1, k20000_1 = k20000_1, l20000_1.length = (List.map S_api_Item.row l20000_1).length, ((List.map S_api_Item.row l20000_1).length + ([[.string x71.Name, .int .i64 x71.Version.Epoch, .int .i64 x71.Version.N, .int .u32 x71.Crc]] : List (List Value)).length) * (40 + 1) ≤ 70368744177664, ([[.string x71.Name, .int .i64 x71.Version.Epoch, .int .i64 x71.Version.N, .int .u32 x71.Crc]] : List (List Value)).flatten.all Value.oneCell' = true, ((.slice ((fr76 3).ob) (l20000_1.length + ([[.string x71.Name, .int .i64 x71.Version.Epoch, .int .i64 x71.Version.N, .int .u32 x71.Crc]] : List (List Value)).length) ((fr76 3).cap)) : Value) = .slice ((fr76 3).ob) ((l20000_1 ++ [x71]).length) ((fr76 3).cap)]) (fun fr76 => by kernel_rfl) (fun fr76 => ⟨rfl, rfl, rfl, (by rw [show ([[.string x71.Name, .int .i64 x71.Version.Epoch, .int .i64 x71.Version.N, .int .u32 x71.Crc]] : List (List Value)) = List.map S_api_Item.row [x71] from rfl]; exact mlen S_api_Item.row [x71]), rfl, rfl, mlen S_api_Item.row l20000_1, appb g77 (mlen S_api_Item.row l20000_1).symm (by rw [show ([[.string x71.Name, .int .i64 x71.Version.Epoch, .int .i64 x71.Version.N, .int .u32 x71.Crc]] : List (List Value)) = List.map S_api_Item.row [x71] from rfl]; exact (mlen S_api_Item.row [x71]).symm), (by rw [show ([[.string x71.Name, .int .i64 x71.Version.Epoch, .int .i64 x71.Version.N, .int .u32 x71.Crc]] : List (List Value)) = List.map S_api_Item.row [x71] from (show ([[.string x71.Name, .int .i64 x71.Version.Epoch, .int .i64 x71.Version.N, .int .u32 x71.Crc]] : List (List Value)) = List.map S_api_Item.row [x71] from rfl)]; exact all_one S_api_Item.row _ (fun _ => rfl)), slen (by simp), trivial⟩)) ?_
    intro fr76
    refine GS.conv (mem' := [(1, r48 a0_o a0), (20000, o48 ((fr76 3).ob) ((fr76 3).cap) (l20000_1 ++ [x71])), (20001, .cells ((fr74 2).x) 48 [.string x71.Name, .int .i64 x71.Version.Epoch, .int .i64 x71.Version.N, .int .u32 x71.Crc])]) rfl (congrArg (fun rr : List (List Value) => ([(1, r48 a0_o a0), (20000, .osl ((fr76 3).ob) ((fr76 3).cap) 48 4 rr), (20001, .cells ((fr74 2).x) 48 [.string x71.Name, .int .i64 x71.Version.Epoch, .int .i64 x71.Version.N, .int .u32 x71.Crc])] : List (Nat × Ent))) (show (List.map S_api_Item.row l20000_1) ++ ([[.string x71.Name, .int .i64 x71.Version.Epoch, .int .i64 x71.Version.N, .int .u32 x71.Crc]] : List (List Value)) = List.map S_api_Item.row (l20000_1 ++ [x71]) from (by rw [show List.map S_api_Item.row l20000_1 = List.map S_api_Item.row l20000_1 from rfl, show ([[.string x71.Name, .int .i64 x71.Version.Epoch, .int .i64 x71.Version.N, .int .u32 x71.Crc]] : List (List Value)) = List.map S_api_Item.row [x71] from (show ([[.string x71.Name, .int .i64 x71.Version.Epoch, .int .i64 x71.Version.N, .int .u32 x71.Crc]] : List (List Value)) = List.map S_api_Item.row [x71] from rfl)]; exact mapp S_api_Item.row _ _))) ?_
    refine GS.seq ?_
    refine GS.block ?_
    refine GS.loop ?_
    refine GS.know (p := (l20000_1 ++ [x71]).length ≤ (fr76 3).cap) (fun w hw => by first | (have h := (hw.ok 20000 _ rfl).1.1; rw [List.length_map] at h; exact h) | simpa using (hw.ok 20000 _ rfl).1.1) (fun k78 => ?_)
    refine GS.rekey (env' := [(3, .slice ((fr76 3).ob) ((l20000_1 ++ [x71]).length) ((fr76 3).cap)), (5, .pointer (some ⟨(fr74 2).x, 0, none⟩)), (6, .int .i64 ((l20000_1.length : Nat) : Int)), (7, .slice a0_o a0.length a0_c), (8, .int .i64 ((a0.length : Nat) : Int)), (9, .int .i64 ((v9_1 : Nat) : Int))]) (mem' := [(1, r48 a0_o a0), (20000, o48 ((fr76 3).ob) ((fr76 3).cap) (l20000_1 ++ [x71])), (20001, .cells ((fr74 2).x) 48 [.string x71.Name, .int .i64 x71.Version.Epoch, .int .i64 x71.Version.N, .int .u32 x71.Crc])]) [3, 5, 6, 7, 8, 9] [(1, 1), (20000, 20000), (20001, 20001)] (by kernel_rfl) (by kernel_rfl) rfl ?_
    refine loopW_elim hm (fun st116 hst118 hm => ?_)
    refine GS.loopInv (ι := Nat × Int × List S_api_Item) (I := fun ⟨rs114, v6_4, l20000_4⟩ => loopW st116 rs114 (v6_4, l20000_4) = some y) (μ := fun ⟨rs114, v6_4, l20000_4⟩ => rs114) (E := fun ⟨rs114, v6_4, l20000_4⟩ => [(3, .slice ((fr76 3).ob) l20000_4.length ((fr76 3).cap)), (5, .pointer (some ⟨(fr74 2).x, 0, none⟩)), (6, .int .i64 v6_4), (7, .slice a0_o a0.length a0_c), (8, .int .i64 ((a0.length : Nat) : Int)), (9, .int .i64 ((v9_1 : Nat) : Int))]) (M := fun ⟨rs114, v6_4, l20000_4⟩ => [(1, r48 a0_o a0), (20000, o48 ((fr76 3).ob) ((fr76 3).cap) l20000_4), (20001, .cells ((fr74 2).x) 48 [.string x71.Name, .int .i64 x71.Version.Epoch, .int .i64 x71.Version.N, .int .u32 x71.Crc])]) ?_ ⟨F, ((l20000_1.length : Nat) : Int), (l20000_1 ++ [x71])⟩ hm
    rintro ⟨rs114, v6_4, l20000_4⟩ hm ih115
    cases rs114 with
    | zero => cases hm
    | succ rs114 =>
      replace hm := (hst118 _ _).symm.trans hm
      try dsimp only at hm
      refine GS.seq ?_
      refine GS.seq ?_
      refine jn_elim hm (fun J104 hJ106 hm => ?_)
      refine GS.cut (ι := Bool) (I := fun (v31_5 : Bool) => J104 v31_5 = some y) (E := fun (v31_5 : Bool) => [(3, .slice ((fr76 3).ob) l20000_4.length ((fr76 3).cap)), (5, .pointer (some ⟨(fr74 2).x, 0, none⟩)), (6, .int .i64 v6_4), (7, .slice a0_o a0.length a0_c), (8, .int .i64 ((a0.length : Nat) : Int)), (9, .int .i64 ((v9_1 : Nat) : Int)), (31, .bool v31_5)]) (M := fun (v31_5 : Bool) => [(1, r48 a0_o a0), (20000, o48 ((fr76 3).ob) ((fr76 3).cap) l20000_4), (20001, .cells ((fr74 2).x) 48 [.string x71.Name, .int .i64 x71.Version.Epoch, .int .i64 x71.Version.N, .int .u32 x71.Crc])]) ?_ ?_
      rotate_left
      · intro H105
        refine br_elim hm (fun h103 hm => ?_) (fun h103 hm => ?_)
        · skip
          refine grd_elim hm (fun g104 hm => ?_)
          refine grd_elim hm (fun g105 hm => ?_)
          refine GS.region (env' := fun _ => [(3, .slice ((fr76 3).ob) l20000_4.length ((fr76 3).cap)), (5, .pointer (some ⟨(fr74 2).x, 0, none⟩)), (6, .int .i64 v6_4), (7, .slice a0_o a0.length a0_c), (8, .int .i64 ((a0.length : Nat) : Int)), (9, .int .i64 ((v9_1 : Nat) : Int)), (31, .bool (!(Op.bytesLess ((l20000_4.getD (Int.toNat (v6_4 - 1)) dS_api_Item).Name).toList x71.Name.toList || ((l20000_4.getD (Int.toNat (v6_4 - 1)) dS_api_Item).Name).toList == x71.Name.toList)))]) (mem' := fun _ => [(1, r48 a0_o a0), (20000, o48 ((fr76 3).ob) ((fr76 3).cap) l20000_4), (20001, .cells ((fr74 2).x) 48 [.string x71.Name, .int .i64 x71.Version.Epoch, .int .i64 x71.Version.N, .int .u32 x71.Crc])]) (RunsTo.mkd [(2, { sp := some (.bool true) }), (5, { sp := some (.int .i64 (v6_4 - 1)) }), (6, { act := .idx 20000 (Int.toNat (v6_4 - 1)) }), (8, { act := .load 20000 (Int.toNat (v6_4 - 1)) 0 [.string ((l20000_4.getD (Int.toNat (v6_4 - 1)) dS_api_Item).Name), .int .i64 (((l20000_4.getD (Int.toNat (v6_4 - 1)) dS_api_Item).Version).Epoch), .int .i64 (((l20000_4.getD (Int.toNat (v6_4 - 1)) dS_api_Item).Version).N), .int .u32 ((l20000_4.getD (Int.toNat (v6_4 - 1)) dS_api_Item).Crc)] }), (10, { act := .load 20001 0 0 [] })] [3, 5, 6, 7, 8, 9, 31] [1, 20000, 20001] (fun _ => [((.bool (decide (v6_4 > 0))) : Value) = .bool true, ((.int .i64 (IntKind.i64.wrap (v6_4 - 1))) : Value) = .int .i64 (v6_4 - 1), (fr76 3).ob = (fr76 3).ob, l20000_4.length = (List.map S_api_Item.row l20000_4).length, ((v6_4 - 1) : Int) = (((Int.toNat (v6_4 - 1)) : Nat) : Int), (Int.toNat (v6_4 - 1)) < l20000_4.length, blk ((fr76 3).ob) = blk ((fr76 3).ob), offs ((fr76 3).ob) + (Int.toNat (v6_4 - 1)) * 4 = offs ((fr76 3).ob) + ((Int.toNat (v6_4 - 1)) * 4 + 0), (List.map S_api_Item.row l20000_4)[(Int.toNat (v6_4 - 1))]? = some [.string ((l20000_4.getD (Int.toNat (v6_4 - 1)) dS_api_Item).Name), .int .i64 (((l20000_4.getD (Int.toNat (v6_4 - 1)) dS_api_Item).Version).Epoch), .int .i64 (((l20000_4.getD (Int.toNat (v6_4 - 1)) dS_api_Item).Version).N), .int .u32 ((l20000_4.getD (Int.toNat (v6_4 - 1)) dS_api_Item).Crc)], (fr74 2).x = (fr74 2).x]) (by kernel_rfl) (by kernel_rfl) (fun _ => by kernel_rfl) (fun _ => ⟨bool_eq h103, I64.w g104, rfl, mlen S_api_Item.row l20000_4, g105.eq, g105.2, rfl, rfl, map_at S_api_Item.row dS_api_Item g105.2, rfl, trivial⟩)) ?_
          intro _
          refine GS.rekey (env' := [(3, .slice ((fr76 3).ob) l20000_4.length ((fr76 3).cap)), (5, .pointer (some ⟨(fr74 2).x, 0, none⟩)), (6, .int .i64 v6_4), (7, .slice a0_o a0.length a0_c), (8, .int .i64 ((a0.length : Nat) : Int)), (9, .int .i64 ((v9_1 : Nat) : Int)), (31, .bool (!(Op.bytesLess ((l20000_4.getD (Int.toNat (v6_4 - 1)) dS_api_Item).Name).toList x71.Name.toList || ((l20000_4.getD (Int.toNat (v6_4 - 1)) dS_api_Item).Name).toList == x71.Name.toList)))]) (mem' := [(1, r48 a0_o a0), (20000, o48 ((fr76 3).ob) ((fr76 3).cap) l20000_4), (20001, .cells ((fr74 2).x) 48 [.string x71.Name, .int .i64 x71.Version.Epoch, .int .i64 x71.Version.N, .int .u32 x71.Crc])]) [3, 5, 6, 7, 8, 9, 31] [(1, 1), (20000, 20000), (20001, 20001)] (by kernel_rfl) (by kernel_rfl) rfl ?_
          exact H105 (!(Op.bytesLess ((l20000_4.getD (Int.toNat (v6_4 - 1)) dS_api_Item).Name).toList x71.Name.toList || ((l20000_4.getD (Int.toNat (v6_4 - 1)) dS_api_Item).Name).toList == x71.Name.toList)) hm
        · skip
          refine GS.region (env' := fun _ => [(3, .slice ((fr76 3).ob) l20000_4.length ((fr76 3).cap)), (5, .pointer (some ⟨(fr74 2).x, 0, none⟩)), (6, .int .i64 v6_4), (7, .slice a0_o a0.length a0_c), (8, .int .i64 ((a0.length : Nat) : Int)), (9, .int .i64 ((v9_1 : Nat) : Int)), (31, .bool false)]) (mem' := fun _ => [(1, r48 a0_o a0), (20000, o48 ((fr76 3).ob) ((fr76 3).cap) l20000_4), (20001, .cells ((fr74 2).x) 48 [.string x71.Name, .int .i64 x71.Version.Epoch, .int .i64 x71.Version.N, .int .u32 x71.Crc])]) (RunsTo.mkd [(2, { sp := some (.bool false) })] [3, 5, 6, 7, 8, 9, 31] [1, 20000, 20001] (fun _ => [((.bool (decide (v6_4 > 0))) : Value) = .bool false]) (by kernel_rfl) (by kernel_rfl) (fun _ => by kernel_rfl) (fun _ => ⟨bool_eq h103, trivial⟩)) ?_
          intro _
          refine GS.rekey (env' := [(3, .slice ((fr76 3).ob) l20000_4.length ((fr76 3).cap)), (5, .pointer (some ⟨(fr74 2).x, 0, none⟩)), (6, .int .i64 v6_4), (7, .slice a0_o a0.length a0_c), (8, .int .i64 ((a0.length : Nat) : Int)), (9, .int .i64 ((v9_1 : Nat) : Int)), (31, .bool false)]) (mem' := [(1, r48 a0_o a0), (20000, o48 ((fr76 3).ob) ((fr76 3).cap) l20000_4), (20001, .cells ((fr74 2).x) 48 [.string x71.Name, .int .i64 x71.Version.Epoch, .int .i64 x71.Version.N, .int .u32 x71.Crc])]) [3, 5, 6, 7, 8, 9, 31] [(1, 1), (20000, 20000), (20001, 20001)] (by kernel_rfl) (by kernel_rfl) rfl ?_
          exact H105 false hm
      · rintro v31_5 hm
        replace hm := (hJ106 _).symm.trans hm
        try dsimp only at hm
        refine GS.cond (t := v31_5) rfl rfl (fun h107 => ?_) (fun h107 => ?_)
        · replace hm := br_t h107 hm
          refine GS.skip ?_
          refine GS.block ?_
          refine GS.seq ?_
          refine grd_elim hm (fun g109 hm => ?_)
          refine grd_elim hm (fun g110 hm => ?_)
          refine grd_elim hm (fun g111 hm => ?_)
          refine GS.region (env' := fun _ => [(3, .slice ((fr76 3).ob) l20000_4.length ((fr76 3).cap)), (5, .pointer (some ⟨(fr74 2).x, 0, none⟩)), (6, .int .i64 v6_4), (7, .slice a0_o a0.length a0_c), (8, .int .i64 ((a0.length : Nat) : Int)), (9, .int .i64 ((v9_1 : Nat) : Int))]) (mem' := fun _ => [(1, r48 a0_o a0), (20000, .osl ((fr76 3).ob) ((fr76 3).cap) 48 4 ((List.map S_api_Item.row l20000_4).set (Int.toNat v6_4) [.string ((l20000_4.getD (Int.toNat (v6_4 - 1)) dS_api_Item).Name), .int .i64 (((l20000_4.getD (Int.toNat (v6_4 - 1)) dS_api_Item).Version).Epoch), .int .i64 (((l20000_4.getD (Int.toNat (v6_4 - 1)) dS_api_Item).Version).N), .int .u32 ((l20000_4.getD (Int.toNat (v6_4 - 1)) dS_api_Item).Crc)])), (20001, .cells ((fr74 2).x) 48 [.string x71.Name, .int .i64 x71.Version.Epoch, .int .i64 x71.Version.N, .int .u32 x71.Crc])]) (RunsTo.mk [(4, { sp := some (.int .i64 (v6_4 - 1)) }), (5, { act := .idx 20000 (Int.toNat (v6_4 - 1)) }), (6, { act := .load 20000 (Int.toNat (v6_4 - 1)) 0 [.string ((l20000_4.getD (Int.toNat (v6_4 - 1)) dS_api_Item).Name), .int .i64 (((l20000_4.getD (Int.toNat (v6_4 - 1)) dS_api_Item).Version).Epoch), .int .i64 (((l20000_4.getD (Int.toNat (v6_4 - 1)) dS_api_Item).Version).N), .int .u32 ((l20000_4.getD (Int.toNat (v6_4 - 1)) dS_api_Item).Crc)] }), (7, { act := .idx 20000 (Int.toNat v6_4) }), (8, { act := .store (Int.toNat v6_4) 0 [.string ((l20000_4.getD (Int.toNat v6_4) dS_api_Item).Name), .int .i64 (((l20000_4.getD (Int.toNat v6_4) dS_api_Item).Version).Epoch), .int .i64 (((l20000_4.getD (Int.toNat v6_4) dS_api_Item).Version).N), .int .u32 ((l20000_4.getD (Int.toNat v6_4) dS_api_Item).Crc)], key := some 20000 })] [3, 5, 6, 7, 8, 9] [1, 20000, 20001] (fun _ => [((.int .i64 (IntKind.i64.wrap (v6_4 - 1))) : Value) = .int .i64 (v6_4 - 1), (fr76 3).ob = (fr76 3).ob, l20000_4.length = (List.map S_api_Item.row l20000_4).length, ((v6_4 - 1) : Int) = (((Int.toNat (v6_4 - 1)) : Nat) : Int), (Int.toNat (v6_4 - 1)) < l20000_4.length, blk ((fr76 3).ob) = blk ((fr76 3).ob), offs ((fr76 3).ob) + (Int.toNat (v6_4 - 1)) * 4 = offs ((fr76 3).ob) + ((Int.toNat (v6_4 - 1)) * 4 + 0), (List.map S_api_Item.row l20000_4)[(Int.toNat (v6_4 - 1))]? = some [.string ((l20000_4.getD (Int.toNat (v6_4 - 1)) dS_api_Item).Name), .int .i64 (((l20000_4.getD (Int.toNat (v6_4 - 1)) dS_api_Item).Version).Epoch), .int .i64 (((l20000_4.getD (Int.toNat (v6_4 - 1)) dS_api_Item).Version).N), .int .u32 ((l20000_4.getD (Int.toNat (v6_4 - 1)) dS_api_Item).Crc)], (fr76 3).ob = (fr76 3).ob, l20000_4.length = (List.map S_api_Item.row l20000_4).length, (v6_4 : Int) = (((Int.toNat v6_4) : Nat) : Int), (Int.toNat v6_4) < l20000_4.length, blk ((fr76 3).ob) = blk ((fr76 3).ob), offs ((fr76 3).ob) + (Int.toNat v6_4) * 4 = offs ((fr76 3).ob) + ((Int.toNat v6_4) * 4 + 0), (List.map S_api_Item.row l20000_4)[(Int.toNat v6_4)]? = some [.string ((l20000_4.getD (Int.toNat v6_4) dS_api_Item).Name), .int .i64 (((l20000_4.getD (Int.toNat v6_4) dS_api_Item).Version).Epoch), .int .i64 (((l20000_4.getD (Int.toNat v6_4) dS_api_Item).Version).N), .int .u32 ((l20000_4.getD (Int.toNat v6_4) dS_api_Item).Crc)], ((.agg #[.string ((l20000_4.getD (Int.toNat (v6_4 - 1)) dS_api_Item).Name), .int .i64 (((l20000_4.getD (Int.toNat (v6_4 - 1)) dS_api_Item).Version).Epoch), .int .i64 (((l20000_4.getD (Int.toNat (v6_4 - 1)) dS_api_Item).Version).N), .int .u32 ((l20000_4.getD (Int.toNat (v6_4 - 1)) dS_api_Item).Crc)]) : Value).cells.toList.all Value.oneCell' = true]) (fun _ => by kernel_rfl) (fun _ => ⟨I64.w g109, rfl, mlen S_api_Item.row l20000_4, g110.eq, g110.2, rfl, rfl, map_at S_api_Item.row dS_api_Item g110.2, rfl, mlen S_api_Item.row l20000_4, g111.eq, g111.2, rfl, rfl, map_at S_api_Item.row dS_api_Item g111.2, rfl, trivial⟩)) ?_
          intro _
          refine GS.conv (mem' := [(1, r48 a0_o a0), (20000, o48 ((fr76 3).ob) ((fr76 3).cap) (l20000_4.set (Int.toNat v6_4) (l20000_4.getD (Int.toNat (v6_4 - 1)) dS_api_Item))), (20001, .cells ((fr74 2).x) 48 [.string x71.Name, .int .i64 x71.Version.Epoch, .int .i64 x71.Version.N, .int .u32 x71.Crc])]) rfl (congrArg (fun rr : List (List Value) => ([(1, r48 a0_o a0), (20000, .osl ((fr76 3).ob) ((fr76 3).cap) 48 4 rr), (20001, .cells ((fr74 2).x) 48 [.string x71.Name, .int .i64 x71.Version.Epoch, .int .i64 x71.Version.N, .int .u32 x71.Crc])] : List (Nat × Ent))) (show (List.map S_api_Item.row l20000_4).set (Int.toNat v6_4) [.string ((l20000_4.getD (Int.toNat (v6_4 - 1)) dS_api_Item).Name), .int .i64 (((l20000_4.getD (Int.toNat (v6_4 - 1)) dS_api_Item).Version).Epoch), .int .i64 (((l20000_4.getD (Int.toNat (v6_4 - 1)) dS_api_Item).Version).N), .int .u32 ((l20000_4.getD (Int.toNat (v6_4 - 1)) dS_api_Item).Crc)] = List.map S_api_Item.row (l20000_4.set (Int.toNat v6_4) (l20000_4.getD (Int.toNat (v6_4 - 1)) dS_api_Item)) from mset S_api_Item.row l20000_4 (Int.toNat v6_4) (l20000_4.getD (Int.toNat (v6_4 - 1)) dS_api_Item))) ?_
          refine GS.conv (env' := [(3, .slice ((fr76 3).ob) ((l20000_4.set (Int.toNat v6_4) (l20000_4.getD (Int.toNat (v6_4 - 1)) dS_api_Item)).length) ((fr76 3).cap)), (5, .pointer (some ⟨(fr74 2).x, 0, none⟩)), (6, .int .i64 v6_4), (7, .slice a0_o a0.length a0_c), (8, .int .i64 ((a0.length : Nat) : Int)), (9, .int .i64 ((v9_1 : Nat) : Int))]) (congrArg (fun vhole : Value => [(3, vhole), (5, .pointer (some ⟨(fr74 2).x, 0, none⟩)), (6, .int .i64 v6_4), (7, .slice a0_o a0.length a0_c), (8, .int .i64 ((a0.length : Nat) : Int)), (9, .int .i64 ((v9_1 : Nat) : Int))]) (show ((.slice ((fr76 3).ob) l20000_4.length ((fr76 3).cap)) : Value) = .slice ((fr76 3).ob) ((l20000_4.set (Int.toNat v6_4) (l20000_4.getD (Int.toNat (v6_4 - 1)) dS_api_Item)).length) ((fr76 3).cap) from (by simp []))) rfl ?_
          refine GS.region (env' := fun _ => [(3, .slice ((fr76 3).ob) ((l20000_4.set (Int.toNat v6_4) (l20000_4.getD (Int.toNat (v6_4 - 1)) dS_api_Item)).length) ((fr76 3).cap)), (5, .pointer (some ⟨(fr74 2).x, 0, none⟩)), (6, .int .i64 (v6_4 - 1)), (7, .slice a0_o a0.length a0_c), (8, .int .i64 ((a0.length : Nat) : Int)), (9, .int .i64 ((v9_1 : Nat) : Int))]) (mem' := fun _ => [(1, r48 a0_o a0), (20000, o48 ((fr76 3).ob) ((fr76 3).cap) (l20000_4.set (Int.toNat v6_4) (l20000_4.getD (Int.toNat (v6_4 - 1)) dS_api_Item))), (20001, .cells ((fr74 2).x) 48 [.string x71.Name, .int .i64 x71.Version.Epoch, .int .i64 x71.Version.N, .int .u32 x71.Crc])]) (RunsTo.mk [(1, { sp := some (.int .i64 (v6_4 - 1)) })] [3, 5, 6, 7, 8, 9] [1, 20000, 20001] (fun _ => [((.int .i64 (IntKind.i64.wrap (v6_4 - 1))) : Value) = .int .i64 (v6_4 - 1)]) (fun _ => by kernel_rfl) (fun _ => ⟨I64.w g109, trivial⟩)) ?_
          intro _
          refine GS.inBlock ?_
          refine GS.inLoop ?_
          refine GS.rekey (env' := [(3, .slice ((fr76 3).ob) ((l20000_4.set (Int.toNat v6_4) (l20000_4.getD (Int.toNat (v6_4 - 1)) dS_api_Item)).length) ((fr76 3).cap)), (5, .pointer (some ⟨(fr74 2).x, 0, none⟩)), (6, .int .i64 (v6_4 - 1)), (7, .slice a0_o a0.length a0_c), (8, .int .i64 ((a0.length : Nat) : Int)), (9, .int .i64 ((v9_1 : Nat) : Int))]) (mem' := [(1, r48 a0_o a0), (20000, o48 ((fr76 3).ob) ((fr76 3).cap) (l20000_4.set (Int.toNat v6_4) (l20000_4.getD (Int.toNat (v6_4 - 1)) dS_api_Item))), (20001, .cells ((fr74 2).x) 48 [.string x71.Name, .int .i64 x71.Version.Epoch, .int .i64 x71.Version.N, .int .u32 x71.Crc])]) [3, 5, 6, 7, 8, 9] [(1, 1), (20000, 20000), (20001, 20001)] (by kernel_rfl) (by kernel_rfl) rfl ?_
          exact ih115 ⟨rs114, (v6_4 - 1), (l20000_4.set (Int.toNat v6_4) (l20000_4.getD (Int.toNat (v6_4 - 1)) dS_api_Item))⟩ hm (Nat.lt_succ_self _)
        · replace hm := br_f h107 hm
          refine GS.exit rfl ?_
          refine grd_elim hm (fun g121 hm => ?_)
          refine GS.region (env' := fun _ => [(3, .slice ((fr76 3).ob) l20000_4.length ((fr76 3).cap)), (7, .slice a0_o a0.length a0_c), (8, .int .i64 ((a0.length : Nat) : Int)), (9, .int .i64 ((v9_1 : Nat) : Int))]) (mem' := fun _ => [(1, r48 a0_o a0), (20000, .osl ((fr76 3).ob) ((fr76 3).cap) 48 4 ((List.map S_api_Item.row l20000_4).set (Int.toNat v6_4) [.string x71.Name, .int .i64 x71.Version.Epoch, .int .i64 x71.Version.N, .int .u32 x71.Crc]))]) (RunsTo.mk [(2, { act := .load 20001 0 0 [] }), (3, { act := .idx 20000 (Int.toNat v6_4) }), (4, { act := .store (Int.toNat v6_4) 0 [.string ((l20000_4.getD (Int.toNat v6_4) dS_api_Item).Name), .int .i64 (((l20000_4.getD (Int.toNat v6_4) dS_api_Item).Version).Epoch), .int .i64 (((l20000_4.getD (Int.toNat v6_4) dS_api_Item).Version).N), .int .u32 ((l20000_4.getD (Int.toNat v6_4) dS_api_Item).Crc)], key := some 20000 })] [3, 7, 8, 9] [1, 20000] (fun _ => [(fr74 2).x = (fr74 2).x, (fr76 3).ob = (fr76 3).ob, l20000_4.length = (List.map S_api_Item.row l20000_4).length, (v6_4 : Int) = (((Int.toNat v6_4) : Nat) : Int), (Int.toNat v6_4) < l20000_4.length, blk ((fr76 3).ob) = blk ((fr76 3).ob), offs ((fr76 3).ob) + (Int.toNat v6_4) * 4 = offs ((fr76 3).ob) + ((Int.toNat v6_4) * 4 + 0), (List.map S_api_Item.row l20000_4)[(Int.toNat v6_4)]? = some [.string ((l20000_4.getD (Int.toNat v6_4) dS_api_Item).Name), .int .i64 (((l20000_4.getD (Int.toNat v6_4) dS_api_Item).Version).Epoch), .int .i64 (((l20000_4.getD (Int.toNat v6_4) dS_api_Item).Version).N), .int .u32 ((l20000_4.getD (Int.toNat v6_4) dS_api_Item).Crc)], ((.agg #[.string x71.Name, .int .i64 x71.Version.Epoch, .int .i64 x71.Version.N, .int .u32 x71.Crc]) : Value).cells.toList.all Value.oneCell' = true]) (fun _ => by kernel_rfl) (fun _ => ⟨rfl, rfl, mlen S_api_Item.row l20000_4, g121.eq, g121.2, rfl, rfl, map_at S_api_Item.row dS_api_Item g121.2, rfl, trivial⟩)) ?_
          intro _
          refine GS.conv (mem' := [(1, r48 a0_o a0), (20000, o48 ((fr76 3).ob) ((fr76 3).cap) (l20000_4.set (Int.toNat v6_4) x71))]) rfl (congrArg (fun rr : List (List Value) => ([(1, r48 a0_o a0), (20000, .osl ((fr76 3).ob) ((fr76 3).cap) 48 4 rr)] : List (Nat × Ent))) (show (List.map S_api_Item.row l20000_4).set (Int.toNat v6_4) [.string x71.Name, .int .i64 x71.Version.Epoch, .int .i64 x71.Version.N, .int .u32 x71.Crc] = List.map S_api_Item.row (l20000_4.set (Int.toNat v6_4) x71) from mset S_api_Item.row l20000_4 (Int.toNat v6_4) x71)) ?_
          refine GS.inBlock ?_
          refine GS.conv (env' := [(3, .slice ((fr76 3).ob) ((l20000_4.set (Int.toNat v6_4) x71).length) ((fr76 3).cap)), (7, .slice a0_o a0.length a0_c), (8, .int .i64 ((a0.length : Nat) : Int)), (9, .int .i64 ((v9_1 : Nat) : Int))]) (congrArg (fun vhole : Value => [(3, vhole), (7, .slice a0_o a0.length a0_c), (8, .int .i64 ((a0.length : Nat) : Int)), (9, .int .i64 ((v9_1 : Nat) : Int))]) (show ((.slice ((fr76 3).ob) l20000_4.length ((fr76 3).cap)) : Value) = .slice ((fr76 3).ob) ((l20000_4.set (Int.toNat v6_4) x71).length) ((fr76 3).cap) from (by simp []))) rfl ?_
          refine GS.region (env' := fun _ => [(3, .slice ((fr76 3).ob) ((l20000_4.set (Int.toNat v6_4) x71).length) ((fr76 3).cap)), (7, .slice a0_o a0.length a0_c), (8, .int .i64 ((a0.length : Nat) : Int)), (9, .int .i64 ((v9_1 + 1 : Nat) : Int))]) (mem' := fun _ => [(1, r48 a0_o a0), (20000, o48 ((fr76 3).ob) ((fr76 3).cap) (l20000_4.set (Int.toNat v6_4) x71))]) (RunsTo.mk [(0, { sp := some (.int .i64 ((v9_1 + 1 : Nat) : Int)) })] [3, 7, 8, 9] [1, 20000] (fun _ => [((.int .i64 (IntKind.i64.wrap (((v9_1 : Nat) : Int) + 1))) : Value) = .int .i64 ((v9_1 + 1 : Nat) : Int)]) (fun _ => by kernel_rfl) (fun _ => ⟨natw (drop_lt hd69) g70, trivial⟩)) ?_
          intro _
          refine GS.inLoop ?_
          refine GS.rekey (env' := [(3, .slice ((fr76 3).ob) ((l20000_4.set (Int.toNat v6_4) x71).length) ((fr76 3).cap)), (7, .slice a0_o a0.length a0_c), (8, .int .i64 ((a0.length : Nat) : Int)), (9, .int .i64 ((v9_1 + 1 : Nat) : Int))]) (mem' := [(1, r48 a0_o a0), (20000, o48 ((fr76 3).ob) ((fr76 3).cap) (l20000_4.set (Int.toNat v6_4) x71))]) [3, 7, 8, 9] [(1, 1), (20000, 20000)] (by kernel_rfl) (by kernel_rfl) rfl ?_
          exact ih127 ⟨rs126, v9_1 + 1, (l20000_4.set (Int.toNat v6_4) x71), (fr76 3).ob, (fr76 3).cap⟩ ⟨drop_next hd69, hm⟩ (Nat.lt_succ_self _)

theorem w_tholeref20_has (F : Nat) (a0_o : Option Addr) (a0_c : Nat) (a0 : List S_api_Item) (a1 : ByteArray) {y : S_api_Item × Bool} (hm : m_tholeref20_has F a0 a1 = some y) : CallG Try.prog 33 #[.slice a0_o a0.length a0_c, .string a1] (X := Unit) (fun (_ : Unit) => .tuple #[.agg #[.string y.1.Name, .int .i64 y.1.Version.Epoch, .int .i64 y.1.Version.N, .int .u32 y.1.Crc], .bool y.2]) [] [r48 a0_o a0] (fun (_ : Unit) => []) := by
  intro w hg
  rw [m_tholeref20_has] at hm
  refine GS.start (S := mayT [] [r48 a0_o a0]) (mem := [(1, r48 a0_o a0)]) Try.func33 rfl Try.ntmps33 (Nat.le_of_ble_eq_true rfl) (hg.start rfl) ?_
  refine GS.conv (env' := [(0, .slice a0_o a0.length a0_c), (1, .string a1)]) rfl rfl ?_
  refine GS.seq ?_
  refine GS.region (env' := fun fr1 => [(0, .slice a0_o a0.length a0_c), (1, .string a1), (4, .pointer (some ⟨(fr1 0).x, 0, none⟩))]) (mem' := fun fr1 => [(1, r48 a0_o a0), (2, .cells ((fr1 0).x) 48 [.string (ByteArray.mk #[]), .int .i64 0, .int .i64 0, .int .u32 0])]) (RunsTo.mk [(0, { act := .new .var, key := some 2 })] [0, 1, 4] [1, 2] (fun fr1 => []) (fun fr1 => by kernel_rfl) (fun fr1 => trivial)) ?_
  intro fr1
  refine GS.seq ?_
  refine GS.seq ?_
  refine GS.region (env' := fun _ => [(1, .string a1), (4, .pointer (some ⟨(fr1 0).x, 0, none⟩)), (8, .slice a0_o a0.length a0_c), (9, .int .i64 ((a0.length : Nat) : Int)), (10, .int .i64 0)]) (mem' := fun _ => [(1, r48 a0_o a0), (2, .cells ((fr1 0).x) 48 [.string (ByteArray.mk #[]), .int .i64 0, .int .i64 0, .int .u32 0])]) (RunsTo.mk [] [1, 4, 8, 9, 10] [1, 2] (fun _ => []) (fun _ => by kernel_rfl) (fun _ => trivial)) ?_
  intro _
  refine GS.block ?_
  refine GS.loop ?_
  refine grd_elim hm (fun g21 hm => ?_)
  refine GS.rekey (env' := [(1, .string a1), (4, .pointer (some ⟨(fr1 0).x, 0, none⟩)), (8, .slice a0_o a0.length a0_c), (9, .int .i64 ((a0.length : Nat) : Int)), (10, .int .i64 0)]) (mem' := [(1, r48 a0_o a0), (2, .cells ((fr1 0).x) 48 [.string (ByteArray.mk #[]), .int .i64 0, .int .i64 0, .int .u32 0])]) [1, 4, 8, 9, 10] [(1, 1), (2, 2)] (by kernel_rfl) (by kernel_rfl) rfl ?_
  refine loopL_elim hm (fun st35 fn36 hst37 hfn38 hm => ?_)
  refine GS.loopInv (ι := List S_api_Item × Nat) (I := fun ⟨rs33, v10_1⟩ => a0.drop v10_1 = rs33 ∧ loopL st35 fn36 rs33 v10_1 () = some y) (μ := fun ⟨rs33, v10_1⟩ => rs33.length) (E := fun ⟨rs33, v10_1⟩ => [(1, .string a1), (4, .pointer (some ⟨(fr1 0).x, 0, none⟩)), (8, .slice a0_o a0.length a0_c), (9, .int .i64 ((a0.length : Nat) : Int)), (10, .int .i64 ((v10_1 : Nat) : Int))]) (M := fun ⟨rs33, v10_1⟩ => [(1, r48 a0_o a0), (2, .cells ((fr1 0).x) 48 [.string (ByteArray.mk #[]), .int .i64 0, .int .i64 0, .int .u32 0])]) ?_ ⟨a0, 0⟩ ⟨List.drop_zero .., hm⟩
  rintro ⟨rs33, v10_1⟩ ⟨hd20, hm⟩ ih34
  cases rs33 with
  | nil =>
    replace hm := (hfn38 _ _).symm.trans hm
    try dsimp only at hm
    refine GS.seq ?_
    refine GS.region (env' := fun _ => [(1, .string a1), (4, .pointer (some ⟨(fr1 0).x, 0, none⟩)), (8, .slice a0_o a0.length a0_c), (9, .int .i64 ((a0.length : Nat) : Int)), (10, .int .i64 ((v10_1 : Nat) : Int)), (11, .bool (decide (((v10_1 : Nat) : Int) < ((a0.length : Nat) : Int))))]) (mem' := fun _ => [(1, r48 a0_o a0), (2, .cells ((fr1 0).x) 48 [.string (ByteArray.mk #[]), .int .i64 0, .int .i64 0, .int .u32 0])]) (RunsTo.mk [] [1, 4, 8, 9, 10, 11] [1, 2] (fun _ => []) (fun _ => by kernel_rfl) (fun _ => trivial)) ?_
    intro _
    refine GS.seq ?_
    refine GS.cond (t := decide (((v10_1 : Nat) : Int) < ((a0.length : Nat) : Int))) rfl rfl (fun h31 => absb h31 (drop_dec0 hd20)) (fun _ => ?_)
    refine GS.exit rfl ?_
    refine GS.seq ?_
    refine GS.region (env' := fun _ => [(4, .pointer (some ⟨(fr1 0).x, 0, none⟩)), (5, .bool false)]) (mem' := fun _ => [(2, .cells ((fr1 0).x) 48 [.string (ByteArray.mk #[]), .int .i64 0, .int .i64 0, .int .u32 0])]) (RunsTo.mk [(1, { act := .store 0 0 [], key := some 2 })] [4, 5] [2] (fun _ => [(fr1 0).x = (fr1 0).x, ((.agg #[.string (ByteArray.mk #[]), .int .i64 0, .int .i64 0, .int .u32 0]) : Value).cells.toList.all Value.oneCell' = true]) (fun _ => by kernel_rfl) (fun _ => ⟨rfl, rfl, trivial⟩)) ?_
    intro _
    have hy := Option.some.inj hm
    subst hy
    refine GS.ret (fn := Try.f33) [2, 0] [.agg #[.string (ByteArray.mk #[]), .int .i64 0, .int .i64 0, .int .u32 0], .bool false] [(fr1 0).x = (fr1 0).x] rfl Try.func33 (by kernel_rfl) ⟨rfl, trivial⟩ (fun w' hs => ?_)
    exact ⟨(), rfl, hs.turnedG (ks := []) rfl rfl⟩
  | cons x22 rs33 =>
    replace hm := (hst37 _ _ _ _).symm.trans hm
    try dsimp only at hm
    refine GS.seq ?_
    refine GS.region (env' := fun _ => [(1, .string a1), (4, .pointer (some ⟨(fr1 0).x, 0, none⟩)), (8, .slice a0_o a0.length a0_c), (9, .int .i64 ((a0.length : Nat) : Int)), (10, .int .i64 ((v10_1 : Nat) : Int)), (11, .bool (decide (((v10_1 : Nat) : Int) < ((a0.length : Nat) : Int))))]) (mem' := fun _ => [(1, r48 a0_o a0), (2, .cells ((fr1 0).x) 48 [.string (ByteArray.mk #[]), .int .i64 0, .int .i64 0, .int .u32 0])]) (RunsTo.mk [] [1, 4, 8, 9, 10, 11] [1, 2] (fun _ => []) (fun _ => by kernel_rfl) (fun _ => trivial)) ?_
    intro _
    refine GS.seq ?_
    refine GS.cond (t := decide (((v10_1 : Nat) : Int) < ((a0.length : Nat) : Int))) rfl rfl (fun _ => ?_) (fun h24 => absb (drop_dec hd20) h24)
    refine GS.skip ?_
    refine GS.seq ?_
    refine GS.block ?_
    refine GS.seq ?_
    refine GS.region (env' := fun fr25 => [(1, .string a1), (4, .pointer (some ⟨(fr1 0).x, 0, none⟩)), (7, .pointer (some ⟨(fr25 2).x, 0, none⟩)), (8, .slice a0_o a0.length a0_c), (9, .int .i64 ((a0.length : Nat) : Int)), (10, .int .i64 ((v10_1 : Nat) : Int))]) (mem' := fun fr25 => [(1, r48 a0_o a0), (2, .cells ((fr1 0).x) 48 [.string (ByteArray.mk #[]), .int .i64 0, .int .i64 0, .int .u32 0]), (3, .cells ((fr25 2).x) 48 [.string x22.Name, .int .i64 x22.Version.Epoch, .int .i64 x22.Version.N, .int .u32 x22.Crc])]) (RunsTo.mk [(0, { act := .idx 1 v10_1 }), (1, { act := .load 1 v10_1 0 [.string x22.Name, .int .i64 x22.Version.Epoch, .int .i64 x22.Version.N, .int .u32 x22.Crc] }), (2, { act := .new .var, key := some 3 }), (3, { act := .store 0 0 [], key := some 3 })] [1, 4, 7, 8, 9, 10] [1, 2, 3] (fun fr25 => [a0_o = a0_o, a0.length = (List.map S_api_Item.row a0).length, (((v10_1 : Nat) : Int) : Int) = ((v10_1 : Nat) : Int), v10_1 < a0.length, blk a0_o = blk a0_o, offs a0_o + v10_1 * 4 = offs a0_o + (v10_1 * 4 + 0), (List.map S_api_Item.row a0)[v10_1]? = some [.string x22.Name, .int .i64 x22.Version.Epoch, .int .i64 x22.Version.N, .int .u32 x22.Crc], (fr25 2).x = (fr25 2).x, ((.agg #[.string x22.Name, .int .i64 x22.Version.Epoch, .int .i64 x22.Version.N, .int .u32 x22.Crc]) : Value).cells.toList.all Value.oneCell' = true]) (fun fr25 => by kernel_rfl) (fun fr25 => ⟨rfl, mlen S_api_Item.row a0, rfl, (drop_lt hd20), rfl, rfl, map_drop S_api_Item.row hd20, rfl, rfl, trivial⟩)) ?_
    intro fr25
    refine GS.seq ?_
    refine GS.region (env' := fun _ => [(1, .string a1), (4, .pointer (some ⟨(fr1 0).x, 0, none⟩)), (7, .pointer (some ⟨(fr25 2).x, 0, none⟩)), (8, .slice a0_o a0.length a0_c), (9, .int .i64 ((a0.length : Nat) : Int)), (10, .int .i64 ((v10_1 : Nat) : Int)), (17, .bool (x22.Name.toList == a1.toList))]) (mem' := fun _ => [(1, r48 a0_o a0), (2, .cells ((fr1 0).x) 48 [.string (ByteArray.mk #[]), .int .i64 0, .int .i64 0, .int .u32 0]), (3, .cells ((fr25 2).x) 48 [.string x22.Name, .int .i64 x22.Version.Epoch, .int .i64 x22.Version.N, .int .u32 x22.Crc])]) (RunsTo.mk [(1, { act := .load 3 0 0 [] })] [1, 4, 7, 8, 9, 10, 17] [1, 2, 3] (fun _ => [(fr25 2).x = (fr25 2).x]) (fun _ => by kernel_rfl) (fun _ => ⟨rfl, trivial⟩)) ?_
    intro _
    refine GS.cond (t := x22.Name.toList == a1.toList) rfl rfl (fun h27 => ?_) (fun h27 => ?_)
    · replace hm := br_t h27 hm
      refine GS.seq ?_
      refine GS.region (env' := fun _ => [(4, .pointer (some ⟨(fr1 0).x, 0, none⟩)), (5, .bool true)]) (mem' := fun _ => [(2, .cells ((fr1 0).x) 48 [.string x22.Name, .int .i64 x22.Version.Epoch, .int .i64 x22.Version.N, .int .u32 x22.Crc])]) (RunsTo.mk [(0, { act := .load 3 0 0 [] }), (1, { act := .store 0 0 [], key := some 2 })] [4, 5] [2] (fun _ => [(fr25 2).x = (fr25 2).x, (fr1 0).x = (fr1 0).x, ((.agg #[.string x22.Name, .int .i64 x22.Version.Epoch, .int .i64 x22.Version.N, .int .u32 x22.Crc]) : Value).cells.toList.all Value.oneCell' = true]) (fun _ => by kernel_rfl) (fun _ => ⟨rfl, rfl, rfl, trivial⟩)) ?_
      intro _
      have hy := Option.some.inj hm
      subst hy
      refine GS.ret (fn := Try.f33) [2, 0] [.agg #[.string x22.Name, .int .i64 x22.Version.Epoch, .int .i64 x22.Version.N, .int .u32 x22.Crc], .bool true] [(fr1 0).x = (fr1 0).x] rfl Try.func33 (by kernel_rfl) ⟨rfl, trivial⟩ (fun w' hs => ?_)
      exact ⟨(), rfl, hs.turnedG (ks := []) rfl rfl⟩
    · replace hm := br_f h27 hm
      refine GS.skip ?_
      refine GS.inBlock ?_
      refine GS.region (env' := fun _ => [(1, .string a1), (4, .pointer (some ⟨(fr1 0).x, 0, none⟩)), (8, .slice a0_o a0.length a0_c), (9, .int .i64 ((a0.length : Nat) : Int)), (10, .int .i64 ((v10_1 + 1 : Nat) : Int))]) (mem' := fun _ => [(1, r48 a0_o a0), (2, .cells ((fr1 0).x) 48 [.string (ByteArray.mk #[]), .int .i64 0, .int .i64 0, .int .u32 0])]) (RunsTo.mk [(0, { sp := some (.int .i64 ((v10_1 + 1 : Nat) : Int)) })] [1, 4, 8, 9, 10] [1, 2] (fun _ => [((.int .i64 (IntKind.i64.wrap (((v10_1 : Nat) : Int) + 1))) : Value) = .int .i64 ((v10_1 + 1 : Nat) : Int)]) (fun _ => by kernel_rfl) (fun _ => ⟨natw (drop_lt hd20) g21, trivial⟩)) ?_
      intro _
      refine GS.inLoop ?_
      refine GS.rekey (env' := [(1, .string a1), (4, .pointer (some ⟨(fr1 0).x, 0, none⟩)), (8, .slice a0_o a0.length a0_c), (9, .int .i64 ((a0.length : Nat) : Int)), (10, .int .i64 ((v10_1 + 1 : Nat) : Int))]) (mem' := [(1, r48 a0_o a0), (2, .cells ((fr1 0).x) 48 [.string (ByteArray.mk #[]), .int .i64 0, .int .i64 0, .int .u32 0])]) [1, 4, 8, 9, 10] [(1, 1), (2, 2)] (by kernel_rfl) (by kernel_rfl) rfl ?_
      exact ih34 ⟨rs33, v10_1 + 1⟩ ⟨drop_next hd20, hm⟩ (Nat.lt_succ_self _)

theorem w_tholeref14_Put (F : Nat) (a0_o : Option Addr) (a0_c : Nat) (a0 : List ByteArray) (a1 : ByteArray) {y : List ByteArray} (hm : m_tholeref14_Put F a0 a1 = some y) : CallG Try.prog 34 #[.slice a0_o a0.length a0_c, .string a1] (X := Option Addr × Nat) (fun ⟨x0, x1⟩ => .slice x0 y.length x1) [] [r9 a0_o a0] (fun ⟨x0, x1⟩ => [o9 x0 x1 y]) := by
  intro w hg
  rw [m_tholeref14_Put] at hm
  refine GS.start (S := mayT [] [r9 a0_o a0]) (mem := [(1, r9 a0_o a0)]) Try.func34 rfl Try.ntmps34 (Nat.le_of_ble_eq_true rfl) (hg.start rfl) ?_
  refine GS.conv (env' := [(0, .slice a0_o a0.length a0_c), (1, .string a1)]) rfl rfl ?_
  refine GS.seq ?_
  refine GS.region (env' := fun _ => [(0, .slice a0_o a0.length a0_c), (1, .string a1)]) (mem' := fun _ => [(1, r9 a0_o a0)]) (RunsTo.mk [] [0, 1] [1] (fun _ => []) (fun _ => by kernel_rfl) (fun _ => trivial)) ?_
  intro _
  refine GS.seq ?_
  refine GS.region (env' := fun _ => [(0, .slice a0_o a0.length a0_c), (1, .string a1), (5, .slice none 0 0)]) (mem' := fun _ => [(1, r9 a0_o a0)]) (RunsTo.mk [] [0, 1, 5] [1] (fun _ => []) (fun _ => by kernel_rfl) (fun _ => trivial)) ?_
  intro _
  refine GS.seq ?_
  refine GS.region (env' := fun _ => [(0, .slice a0_o a0.length a0_c), (1, .string a1), (5, .slice none 0 0), (6, .bool false)]) (mem' := fun _ => [(1, r9 a0_o a0)]) (RunsTo.mk [] [0, 1, 5, 6] [1] (fun _ => []) (fun _ => by kernel_rfl) (fun _ => trivial)) ?_
  intro _
  refine GS.seq ?_
  refine GS.seq ?_
  refine GS.region (env' := fun _ => [(1, .string a1), (5, .slice none 0 0), (6, .bool false), (9, .slice a0_o a0.length a0_c), (10, .int .i64 ((a0.length : Nat) : Int)), (11, .int .i64 0)]) (mem' := fun _ => [(1, r9 a0_o a0)]) (RunsTo.mk [] [1, 5, 6, 9, 10, 11] [1] (fun _ => []) (fun _ => by kernel_rfl) (fun _ => trivial)) ?_
  intro _
  refine GS.block ?_
  refine GS.loop ?_
  refine grd_elim hm (fun g59 hm => ?_)
  refine GS.setMem (mem' := [(1, r9 a0_o a0), (20001, o9 none 0 ([] : List ByteArray))]) (fun w hw => Sat.addNil hw rfl) ?_
  refine GS.rekey (env' := [(1, .string a1), (5, .slice none 0 0), (6, .bool false), (9, .slice a0_o a0.length a0_c), (10, .int .i64 ((a0.length : Nat) : Int)), (11, .int .i64 0)]) (mem' := [(1, r9 a0_o a0), (20000, o9 none 0 ([] : List ByteArray))]) [1, 5, 6, 9, 10, 11] [(1, 1), (20000, 20001)] (by kernel_rfl) (by kernel_rfl) rfl ?_
  refine loopL_elim hm (fun st94 fn95 hst96 hfn97 hm => ?_)
  refine GS.loopInv (ι := List ByteArray × Bool × Nat × List ByteArray × Option Addr × Nat) (I := fun ⟨rs92, v6_1, v11_1, l20000_1, o20000_1, k20000_1⟩ => a0.drop v11_1 = rs92 ∧ loopL st94 fn95 rs92 v11_1 (v6_1, l20000_1) = some y) (μ := fun ⟨rs92, v6_1, v11_1, l20000_1, o20000_1, k20000_1⟩ => rs92.length) (E := fun ⟨rs92, v6_1, v11_1, l20000_1, o20000_1, k20000_1⟩ => [(1, .string a1), (5, .slice o20000_1 l20000_1.length k20000_1), (6, .bool v6_1), (9, .slice a0_o a0.length a0_c), (10, .int .i64 ((a0.length : Nat) : Int)), (11, .int .i64 ((v11_1 : Nat) : Int))]) (M := fun ⟨rs92, v6_1, v11_1, l20000_1, o20000_1, k20000_1⟩ => [(1, r9 a0_o a0), (20000, o9 o20000_1 k20000_1 l20000_1)]) ?_ ⟨a0, false, 0, ([] : List ByteArray), none, 0⟩ ⟨List.drop_zero .., hm⟩
  rintro ⟨rs92, v6_1, v11_1, l20000_1, o20000_1, k20000_1⟩ ⟨hd58, hm⟩ ih93
  cases rs92 with
  | nil =>
    replace hm := (hfn97 _ _).symm.trans hm
    try dsimp only at hm
    refine GS.seq ?_
    refine GS.region (env' := fun _ => [(1, .string a1), (5, .slice o20000_1 l20000_1.length k20000_1), (6, .bool v6_1), (9, .slice a0_o a0.length a0_c), (10, .int .i64 ((a0.length : Nat) : Int)), (11, .int .i64 ((v11_1 : Nat) : Int)), (12, .bool (decide (((v11_1 : Nat) : Int) < ((a0.length : Nat) : Int))))]) (mem' := fun _ => [(1, r9 a0_o a0), (20000, o9 o20000_1 k20000_1 l20000_1)]) (RunsTo.mk [] [1, 5, 6, 9, 10, 11, 12] [1, 20000] (fun _ => []) (fun _ => by kernel_rfl) (fun _ => trivial)) ?_
    intro _
    refine GS.seq ?_
    refine GS.cond (t := decide (((v11_1 : Nat) : Int) < ((a0.length : Nat) : Int))) rfl rfl (fun h90 => absb h90 (drop_dec0 hd58)) (fun _ => ?_)
    refine GS.exit rfl ?_
    refine GS.seq ?_
    refine GS.seq ?_
    refine GS.region (env' := fun _ => [(1, .string a1), (5, .slice o20000_1 l20000_1.length k20000_1), (35, .bool (!v6_1))]) (mem' := fun _ => [(20000, o9 o20000_1 k20000_1 l20000_1)]) (RunsTo.mk [] [1, 5, 35] [20000] (fun _ => []) (fun _ => by kernel_rfl) (fun _ => trivial)) ?_
    intro _
    refine GS.cond (t := !v6_1) rfl rfl (fun h99 => ?_) (fun h99 => ?_)
    · replace hm := br_t h99 hm
      refine grd_elim hm (fun g101 hm => ?_)
      refine GS.region (env' := fun fr100 => [(5, .slice ((fr100 3).ob) ((l20000_1 ++ [a1]).length) ((fr100 3).cap))]) (mem' := fun fr100 => [(20000, .osl ((fr100 3).ob) ((fr100 3).cap) 9 1 ((List.map rS l20000_1) ++ ([[.string a1]] : List (List Value))))]) (RunsTo.mk [(2, { act := .new (.row 1 1), key := some 20001, spf := some (fun f => .slice (some (Addr.mk f.x 0 none)) ([a1].length) 1) }), (3, { act := .app (some 20001), key := some 20000, spf := some (fun f => .slice (f.ob) ((l20000_1 ++ [a1]).length) (f.cap)) })] [5] [20000] (fun fr100 => [((.slice (some (Addr.mk (fr100 2).x 0 none)) 1 1) : Value) = .slice (some (Addr.mk (fr100 2).x 0 none)) ([a1].length) 1, (some (Addr.mk (fr100 2).x 0 none)) = (some (Addr.mk (fr100 2).x 0 none)), [a1].length = ([[.string a1]] : List (List Value)).length, o20000_1 = o20000_1, k20000_1 = k20000_1, l20000_1.length = (List.map rS l20000_1).length, ((List.map rS l20000_1).length + ([[.string a1]] : List (List Value)).length) * (16 + 1) ≤ 70368744177664, ([[.string a1]] : List (List Value)).flatten.all Value.oneCell' = true, ((.slice ((fr100 3).ob) (l20000_1.length + ([[.string a1]] : List (List Value)).length) ((fr100 3).cap)) : Value) = .slice ((fr100 3).ob) ((l20000_1 ++ [a1]).length) ((fr100 3).cap)]) (fun fr100 => by kernel_rfl) (fun fr100 => ⟨rfl, rfl, (by rw [show ([[.string a1]] : List (List Value)) = List.map rS [a1] from rfl]; exact mlen rS [a1]), rfl, rfl, mlen rS l20000_1, appb g101 (mlen rS l20000_1).symm (by rw [show ([[.string a1]] : List (List Value)) = List.map rS [a1] from rfl]; exact (mlen rS [a1]).symm), (by rw [show ([[.string a1]] : List (List Value)) = List.map rS [a1] from (show ([[.string a1]] : List (List Value)) = List.map rS [a1] from rfl)]; exact all_one rS _ (fun _ => rfl)), slen (by simp), trivial⟩)) ?_
      intro fr100
      refine GS.conv (mem' := [(20000, o9 ((fr100 3).ob) ((fr100 3).cap) (l20000_1 ++ [a1]))]) rfl (congrArg (fun rr : List (List Value) => ([(20000, .osl ((fr100 3).ob) ((fr100 3).cap) 9 1 rr)] : List (Nat × Ent))) (show (List.map rS l20000_1) ++ ([[.string a1]] : List (List Value)) = List.map rS (l20000_1 ++ [a1]) from (by rw [show List.map rS l20000_1 = List.map rS l20000_1 from rfl, show ([[.string a1]] : List (List Value)) = List.map rS [a1] from (show ([[.string a1]] : List (List Value)) = List.map rS [a1] from rfl)]; exact mapp rS _ _))) ?_
      refine GS.seq ?_
      refine GS.region (env' := fun _ => [(4, .slice ((fr100 3).ob) ((l20000_1 ++ [a1]).length) ((fr100 3).cap))]) (mem' := fun _ => [(20000, o9 ((fr100 3).ob) ((fr100 3).cap) (l20000_1 ++ [a1]))]) (RunsTo.mk [] [4] [20000] (fun _ => []) (fun _ => by kernel_rfl) (fun _ => trivial)) ?_
      intro _
      have hy := Option.some.inj hm
      subst hy
      refine GS.ret (fn := Try.f34) [0] [.slice ((fr100 3).ob) ((l20000_1 ++ [a1]).length) ((fr100 3).cap)] [] rfl Try.func34 (by kernel_rfl) trivial (fun w' hs => ?_)
      exact ⟨⟨(fr100 3).ob, (fr100 3).cap⟩, rfl, hs.turnedG (ks := [20000]) rfl rfl⟩
    · replace hm := br_f h99 hm
      refine GS.skip ?_
      refine GS.seq ?_
      refine GS.region (env' := fun _ => [(4, .slice o20000_1 l20000_1.length k20000_1)]) (mem' := fun _ => [(20000, o9 o20000_1 k20000_1 l20000_1)]) (RunsTo.mk [] [4] [20000] (fun _ => []) (fun _ => by kernel_rfl) (fun _ => trivial)) ?_
      intro _
      have hy := Option.some.inj hm
      subst hy
      refine GS.ret (fn := Try.f34) [0] [.slice o20000_1 l20000_1.length k20000_1] [] rfl Try.func34 (by kernel_rfl) trivial (fun w' hs => ?_)
      exact ⟨⟨o20000_1, k20000_1⟩, rfl, hs.turnedG (ks := [20000]) rfl rfl⟩
  | cons x60 rs92 =>
    replace hm := (hst96 _ _ _ _).symm.trans hm
    try dsimp only at hm
    refine GS.seq ?_
    refine GS.region (env' := fun _ => [(1, .string a1), (5, .slice o20000_1 l20000_1.length k20000_1), (6, .bool v6_1), (9, .slice a0_o a0.length a0_c), (10, .int .i64 ((a0.length : Nat) : Int)), (11, .int .i64 ((v11_1 : Nat) : Int)), (12, .bool (decide (((v11_1 : Nat) : Int) < ((a0.length : Nat) : Int))))]) (mem' := fun _ => [(1, r9 a0_o a0), (20000, o9 o20000_1 k20000_1 l20000_1)]) (RunsTo.mk [] [1, 5, 6, 9, 10, 11, 12] [1, 20000] (fun _ => []) (fun _ => by kernel_rfl) (fun _ => trivial)) ?_
    intro _
    refine GS.seq ?_
    refine GS.cond (t := decide (((v11_1 : Nat) : Int) < ((a0.length : Nat) : Int))) rfl rfl (fun _ => ?_) (fun h62 => absb (drop_dec hd58) h62)
    refine GS.skip ?_
    refine GS.seq ?_
    refine GS.block ?_
    refine GS.seq ?_
    refine GS.region (env' := fun _ => [(1, .string a1), (5, .slice o20000_1 l20000_1.length k20000_1), (6, .bool v6_1), (8, .string x60), (9, .slice a0_o a0.length a0_c), (10, .int .i64 ((a0.length : Nat) : Int)), (11, .int .i64 ((v11_1 : Nat) : Int))]) (mem' := fun _ => [(1, r9 a0_o a0), (20000, o9 o20000_1 k20000_1 l20000_1)]) (RunsTo.mk [(0, { act := .idx 1 v11_1 }), (1, { act := .load 1 v11_1 0 [.string x60] })] [1, 5, 6, 8, 9, 10, 11] [1, 20000] (fun _ => [a0_o = a0_o, a0.length = (List.map rS a0).length, (((v11_1 : Nat) : Int) : Int) = ((v11_1 : Nat) : Int), v11_1 < a0.length, blk a0_o = blk a0_o, offs a0_o + v11_1 * 1 = offs a0_o + (v11_1 * 1 + 0), (List.map rS a0)[v11_1]? = some [.string x60]]) (fun _ => by kernel_rfl) (fun _ => ⟨rfl, mlen rS a0, rfl, (drop_lt hd58), rfl, rfl, map_drop rS hd58, trivial⟩)) ?_
    intro _
    refine GS.seq ?_
    refine GS.seq ?_
    refine jn_elim hm (fun J66 hJ68 hm => ?_)
    refine GS.cut (ι := Bool) (I := fun (v21_3 : Bool) => J66 v21_3 = some y) (E := fun (v21_3 : Bool) => [(1, .string a1), (5, .slice o20000_1 l20000_1.length k20000_1), (6, .bool v6_1), (8, .string x60), (9, .slice a0_o a0.length a0_c), (10, .int .i64 ((a0.length : Nat) : Int)), (11, .int .i64 ((v11_1 : Nat) : Int)), (21, .bool v21_3)]) (M := fun (v21_3 : Bool) => [(1, r9 a0_o a0), (20000, o9 o20000_1 k20000_1 l20000_1)]) ?_ ?_
    rotate_left
    · intro H67
      refine br_elim hm (fun h65 hm => ?_) (fun h65 hm => ?_)
      · skip
        refine GS.region (env' := fun _ => [(1, .string a1), (5, .slice o20000_1 l20000_1.length k20000_1), (6, .bool v6_1), (8, .string x60), (9, .slice a0_o a0.length a0_c), (10, .int .i64 ((a0.length : Nat) : Int)), (11, .int .i64 ((v11_1 : Nat) : Int)), (21, .bool (!(Op.bytesLess x60.toList a1.toList)))]) (mem' := fun _ => [(1, r9 a0_o a0), (20000, o9 o20000_1 k20000_1 l20000_1)]) (RunsTo.mk [(2, { sp := some (.bool true) })] [1, 5, 6, 8, 9, 10, 11, 21] [1, 20000] (fun _ => [((.bool (!v6_1)) : Value) = .bool true]) (fun _ => by kernel_rfl) (fun _ => ⟨bool_eq h65, trivial⟩)) ?_
        intro _
        refine GS.rekey (env' := [(1, .string a1), (5, .slice o20000_1 l20000_1.length k20000_1), (6, .bool v6_1), (8, .string x60), (9, .slice a0_o a0.length a0_c), (10, .int .i64 ((a0.length : Nat) : Int)), (11, .int .i64 ((v11_1 : Nat) : Int)), (21, .bool (!(Op.bytesLess x60.toList a1.toList)))]) (mem' := [(1, r9 a0_o a0), (20000, o9 o20000_1 k20000_1 l20000_1)]) [1, 5, 6, 8, 9, 10, 11, 21] [(1, 1), (20000, 20000)] (by kernel_rfl) (by kernel_rfl) rfl ?_
        exact H67 (!(Op.bytesLess x60.toList a1.toList)) hm
      · skip
        refine GS.region (env' := fun _ => [(1, .string a1), (5, .slice o20000_1 l20000_1.length k20000_1), (6, .bool v6_1), (8, .string x60), (9, .slice a0_o a0.length a0_c), (10, .int .i64 ((a0.length : Nat) : Int)), (11, .int .i64 ((v11_1 : Nat) : Int)), (21, .bool false)]) (mem' := fun _ => [(1, r9 a0_o a0), (20000, o9 o20000_1 k20000_1 l20000_1)]) (RunsTo.mk [(2, { sp := some (.bool false) })] [1, 5, 6, 8, 9, 10, 11, 21] [1, 20000] (fun _ => [((.bool (!v6_1)) : Value) = .bool false]) (fun _ => by kernel_rfl) (fun _ => ⟨bool_eq h65, trivial⟩)) ?_
        intro _
        refine GS.rekey (env' := [(1, .string a1), (5, .slice o20000_1 l20000_1.length k20000_1), (6, .bool v6_1), (8, .string x60), (9, .slice a0_o a0.length a0_c), (10, .int .i64 ((a0.length : Nat) : Int)), (11, .int .i64 ((v11_1 : Nat) : Int)), (21, .bool false)]) (mem' := [(1, r9 a0_o a0), (20000, o9 o20000_1 k20000_1 l20000_1)]) [1, 5, 6, 8, 9, 10, 11, 21] [(1, 1), (20000, 20000)] (by kernel_rfl) (by kernel_rfl) rfl ?_
        exact H67 false hm
    · rintro v21_3 hm
      replace hm := (hJ68 _).symm.trans hm
      try dsimp only at hm
      refine jn_elim hm (fun J73 hJ75 hm => ?_)
      refine GS.cut (ι := Bool × List ByteArray × Option Addr × Nat) (I := fun ⟨v6_3, l20000_3, o20000_3, k20000_3⟩ => J73 (v6_3, l20000_3) = some y) (E := fun ⟨v6_3, l20000_3, o20000_3, k20000_3⟩ => [(1, .string a1), (5, .slice o20000_3 l20000_3.length k20000_3), (6, .bool v6_3), (8, .string x60), (9, .slice a0_o a0.length a0_c), (10, .int .i64 ((a0.length : Nat) : Int)), (11, .int .i64 ((v11_1 : Nat) : Int))]) (M := fun ⟨v6_3, l20000_3, o20000_3, k20000_3⟩ => [(1, r9 a0_o a0), (20000, o9 o20000_3 k20000_3 l20000_3)]) ?_ ?_
      rotate_left
      · intro H74
        refine GS.cond (t := v21_3) rfl rfl (fun h69 => ?_) (fun h69 => ?_)
        · replace hm := br_t h69 hm
          refine GS.seq ?_
          refine grd_elim hm (fun g71 hm => ?_)
          refine GS.region (env' := fun fr70 => [(1, .string a1), (5, .slice ((fr70 3).ob) ((l20000_1 ++ [a1]).length) ((fr70 3).cap)), (8, .string x60), (9, .slice a0_o a0.length a0_c), (10, .int .i64 ((a0.length : Nat) : Int)), (11, .int .i64 ((v11_1 : Nat) : Int))]) (mem' := fun fr70 => [(1, r9 a0_o a0), (20000, .osl ((fr70 3).ob) ((fr70 3).cap) 9 1 ((List.map rS l20000_1) ++ ([[.string a1]] : List (List Value))))]) (RunsTo.mk [(2, { act := .new (.row 1 1), key := some 20001, spf := some (fun f => .slice (some (Addr.mk f.x 0 none)) ([a1].length) 1) }), (3, { act := .app (some 20001), key := some 20000, spf := some (fun f => .slice (f.ob) ((l20000_1 ++ [a1]).length) (f.cap)) })] [1, 5, 8, 9, 10, 11] [1, 20000] (fun fr70 => [((.slice (some (Addr.mk (fr70 2).x 0 none)) 1 1) : Value) = .slice (some (Addr.mk (fr70 2).x 0 none)) ([a1].length) 1, (some (Addr.mk (fr70 2).x 0 none)) = (some (Addr.mk (fr70 2).x 0 none)), [a1].length = ([[.string a1]] : List (List Value)).length, o20000_1 = o20000_1, k20000_1 = k20000_1, l20000_1.length = (List.map rS l20000_1).length, ((List.map rS l20000_1).length + ([[.string a1]] : List (List Value)).length) * (16 + 1) ≤ 70368744177664, ([[.string a1]] : List (List Value)).flatten.all Value.oneCell' = true, ((.slice ((fr70 3).ob) (l20000_1.length + ([[.string a1]] : List (List Value)).length) ((fr70 3).cap)) : Value) = .slice ((fr70 3).ob) ((l20000_1 ++ [a1]).length) ((fr70 3).cap)]) (fun fr70 => by kernel_rfl) (fun fr70 => ⟨rfl, rfl, (by rw [show ([[.string a1]] : List (List Value)) = List.map rS [a1] from rfl]; exact mlen rS [a1]), rfl, rfl, mlen rS l20000_1, appb g71 (mlen rS l20000_1).symm (by rw [show ([[.string a1]] : List (List Value)) = List.map rS [a1] from rfl]; exact (mlen rS [a1]).symm), (by rw [show ([[.string a1]] : List (List Value)) = List.map rS [a1] from (show ([[.string a1]] : List (List Value)) = List.map rS [a1] from rfl)]; exact all_one rS _ (fun _ => rfl)), slen (by simp), trivial⟩)) ?_
          intro fr70
          refine GS.conv (mem' := [(1, r9 a0_o a0), (20000, o9 ((fr70 3).ob) ((fr70 3).cap) (l20000_1 ++ [a1]))]) rfl (congrArg (fun rr : List (List Value) => ([(1, r9 a0_o a0), (20000, .osl ((fr70 3).ob) ((fr70 3).cap) 9 1 rr)] : List (Nat × Ent))) (show (List.map rS l20000_1) ++ ([[.string a1]] : List (List Value)) = List.map rS (l20000_1 ++ [a1]) from (by rw [show List.map rS l20000_1 = List.map rS l20000_1 from rfl, show ([[.string a1]] : List (List Value)) = List.map rS [a1] from (show ([[.string a1]] : List (List Value)) = List.map rS [a1] from rfl)]; exact mapp rS _ _))) ?_
          refine GS.region (env' := fun _ => [(1, .string a1), (5, .slice ((fr70 3).ob) ((l20000_1 ++ [a1]).length) ((fr70 3).cap)), (6, .bool true), (8, .string x60), (9, .slice a0_o a0.length a0_c), (10, .int .i64 ((a0.length : Nat) : Int)), (11, .int .i64 ((v11_1 : Nat) : Int))]) (mem' := fun _ => [(1, r9 a0_o a0), (20000, o9 ((fr70 3).ob) ((fr70 3).cap) (l20000_1 ++ [a1]))]) (RunsTo.mk [] [1, 5, 6, 8, 9, 10, 11] [1, 20000] (fun _ => []) (fun _ => by kernel_rfl) (fun _ => trivial)) ?_
          intro _
          refine GS.rekey (env' := [(1, .string a1), (5, .slice ((fr70 3).ob) ((l20000_1 ++ [a1]).length) ((fr70 3).cap)), (6, .bool true), (8, .string x60), (9, .slice a0_o a0.length a0_c), (10, .int .i64 ((a0.length : Nat) : Int)), (11, .int .i64 ((v11_1 : Nat) : Int))]) (mem' := [(1, r9 a0_o a0), (20000, o9 ((fr70 3).ob) ((fr70 3).cap) (l20000_1 ++ [a1]))]) [1, 5, 6, 8, 9, 10, 11] [(1, 1), (20000, 20000)] (by kernel_rfl) (by kernel_rfl) rfl ?_
          exact H74 ⟨true, (l20000_1 ++ [a1]), (fr70 3).ob, (fr70 3).cap⟩ hm
        · replace hm := br_f h69 hm
          refine GS.skip ?_
          refine GS.rekey (env' := [(1, .string a1), (5, .slice o20000_1 l20000_1.length k20000_1), (6, .bool v6_1), (8, .string x60), (9, .slice a0_o a0.length a0_c), (10, .int .i64 ((a0.length : Nat) : Int)), (11, .int .i64 ((v11_1 : Nat) : Int))]) (mem' := [(1, r9 a0_o a0), (20000, o9 o20000_1 k20000_1 l20000_1)]) [1, 5, 6, 8, 9, 10, 11] [(1, 1), (20000, 20000)] (by kernel_rfl) (by kernel_rfl) rfl ?_
          exact H74 ⟨v6_1, l20000_1, o20000_1, k20000_1⟩ hm
      · rintro ⟨v6_3, l20000_3, o20000_3, k20000_3⟩ hm
        replace hm := (hJ75 _).symm.trans hm
        try dsimp only at hm
        refine GS.seq ?_
        refine GS.region (env' := fun _ => [(1, .string a1), (5, .slice o20000_3 l20000_3.length k20000_3), (6, .bool v6_3), (8, .string x60), (9, .slice a0_o a0.length a0_c), (10, .int .i64 ((a0.length : Nat) : Int)), (11, .int .i64 ((v11_1 : Nat) : Int)), (28, .bool (!(x60.toList == a1.toList)))]) (mem' := fun _ => [(1, r9 a0_o a0), (20000, o9 o20000_3 k20000_3 l20000_3)]) (RunsTo.mk [] [1, 5, 6, 8, 9, 10, 11, 28] [1, 20000] (fun _ => []) (fun _ => by kernel_rfl) (fun _ => trivial)) ?_
        intro _
        refine GS.cond (t := !(x60.toList == a1.toList)) rfl rfl (fun h77 => ?_) (fun h77 => ?_)
        · replace hm := br_t h77 hm
          refine grd_elim hm (fun g79 hm => ?_)
          refine GS.region (env' := fun fr78 => [(1, .string a1), (5, .slice ((fr78 3).ob) ((l20000_3 ++ [x60]).length) ((fr78 3).cap)), (6, .bool v6_3), (9, .slice a0_o a0.length a0_c), (10, .int .i64 ((a0.length : Nat) : Int)), (11, .int .i64 ((v11_1 : Nat) : Int))]) (mem' := fun fr78 => [(1, r9 a0_o a0), (20000, .osl ((fr78 3).ob) ((fr78 3).cap) 9 1 ((List.map rS l20000_3) ++ ([[.string x60]] : List (List Value))))]) (RunsTo.mk [(2, { act := .new (.row 1 1), key := some 20001, spf := some (fun f => .slice (some (Addr.mk f.x 0 none)) ([x60].length) 1) }), (3, { act := .app (some 20001), key := some 20000, spf := some (fun f => .slice (f.ob) ((l20000_3 ++ [x60]).length) (f.cap)) })] [1, 5, 6, 9, 10, 11] [1, 20000] (fun fr78 => [((.slice (some (Addr.mk (fr78 2).x 0 none)) 1 1) : Value) = .slice (some (Addr.mk (fr78 2).x 0 none)) ([x60].length) 1, (some (Addr.mk (fr78 2).x 0 none)) = (some (Addr.mk (fr78 2).x 0 none)), [x60].length = ([[.string x60]] : List (List Value)).length, o20000_3 = o20000_3, k20000_3 = k20000_3, l20000_3.length = (List.map rS l20000_3).length, ((List.map rS l20000_3).length + ([[.string x60]] : List (List Value)).length) * (16 + 1) ≤ 70368744177664, ([[.string x60]] : List (List Value)).flatten.all Value.oneCell' = true, ((.slice ((fr78 3).ob) (l20000_3.length + ([[.string x60]] : List (List Value)).length) ((fr78 3).cap)) : Value) = .slice ((fr78 3).ob) ((l20000_3 ++ [x60]).length) ((fr78 3).cap)]) (fun fr78 => by kernel_rfl) (fun fr78 => ⟨rfl, rfl, (by rw [show ([[.string x60]] : List (List Value)) = List.map rS [x60] from rfl]; exact mlen rS [x60]), rfl, rfl, mlen rS l20000_3, appb g79 (mlen rS l20000_3).symm (by rw [show ([[.string x60]] : List (List Value)) = List.map rS [x60] from rfl]; exact (mlen rS [x60]).symm), (by rw [show ([[.string x60]] : List (List Value)) = List.map rS [x60] from (show ([[.string x60]] : List (List Value)) = List.map rS [x60] from rfl)]; exact all_one rS _ (fun _ => rfl)), slen (by simp), trivial⟩)) ?_
          intro fr78
          refine GS.conv (mem' := [(1, r9 a0_o a0), (20000, o9 ((fr78 3).ob) ((fr78 3).cap) (l20000_3 ++ [x60]))]) rfl (congrArg (fun rr : List (List Value) => ([(1, r9 a0_o a0), (20000, .osl ((fr78 3).ob) ((fr78 3).cap) 9 1 rr)] : List (Nat × Ent))) (show (List.map rS l20000_3) ++ ([[.string x60]] : List (List Value)) = List.map rS (l20000_3 ++ [x60]) from (by rw [show List.map rS l20000_3 = List.map rS l20000_3 from rfl, show ([[.string x60]] : List (List Value)) = List.map rS [x60] from (show ([[.string x60]] : List (List Value)) = List.map rS [x60] from rfl)]; exact mapp rS _ _))) ?_
          refine GS.inBlock ?_
          refine GS.region (env' := fun _ => [(1, .string a1), (5, .slice ((fr78 3).ob) ((l20000_3 ++ [x60]).length) ((fr78 3).cap)), (6, .bool v6_3), (9, .slice a0_o a0.length a0_c), (10, .int .i64 ((a0.length : Nat) : Int)), (11, .int .i64 ((v11_1 + 1 : Nat) : Int))]) (mem' := fun _ => [(1, r9 a0_o a0), (20000, o9 ((fr78 3).ob) ((fr78 3).cap) (l20000_3 ++ [x60]))]) (RunsTo.mk [(0, { sp := some (.int .i64 ((v11_1 + 1 : Nat) : Int)) })] [1, 5, 6, 9, 10, 11] [1, 20000] (fun _ => [((.int .i64 (IntKind.i64.wrap (((v11_1 : Nat) : Int) + 1))) : Value) = .int .i64 ((v11_1 + 1 : Nat) : Int)]) (fun _ => by kernel_rfl) (fun _ => ⟨natw (drop_lt hd58) g59, trivial⟩)) ?_
          intro _
          refine GS.inLoop ?_
          refine GS.rekey (env' := [(1, .string a1), (5, .slice ((fr78 3).ob) ((l20000_3 ++ [x60]).length) ((fr78 3).cap)), (6, .bool v6_3), (9, .slice a0_o a0.length a0_c), (10, .int .i64 ((a0.length : Nat) : Int)), (11, .int .i64 ((v11_1 + 1 : Nat) : Int))]) (mem' := [(1, r9 a0_o a0), (20000, o9 ((fr78 3).ob) ((fr78 3).cap) (l20000_3 ++ [x60]))]) [1, 5, 6, 9, 10, 11] [(1, 1), (20000, 20000)] (by kernel_rfl) (by kernel_rfl) rfl ?_
          exact ih93 ⟨rs92, v6_3, v11_1 + 1, (l20000_3 ++ [x60]), (fr78 3).ob, (fr78 3).cap⟩ ⟨drop_next hd58, hm⟩ (Nat.lt_succ_self _)
        · replace hm := br_f h77 hm
          refine GS.skip ?_
          refine GS.inBlock ?_
          refine GS.region (env' := fun _ => [(1, .string a1), (5, .slice o20000_3 l20000_3.length k20000_3), (6, .bool v6_3), (9, .slice a0_o a0.length a0_c), (10, .int .i64 ((a0.length : Nat) : Int)), (11, .int .i64 ((v11_1 + 1 : Nat) : Int))]) (mem' := fun _ => [(1, r9 a0_o a0), (20000, o9 o20000_3 k20000_3 l20000_3)]) (RunsTo.mk [(0, { sp := some (.int .i64 ((v11_1 + 1 : Nat) : Int)) })] [1, 5, 6, 9, 10, 11] [1, 20000] (fun _ => [((.int .i64 (IntKind.i64.wrap (((v11_1 : Nat) : Int) + 1))) : Value) = .int .i64 ((v11_1 + 1 : Nat) : Int)]) (fun _ => by kernel_rfl) (fun _ => ⟨natw (drop_lt hd58) g59, trivial⟩)) ?_
          intro _
          refine GS.inLoop ?_
          refine GS.rekey (env' := [(1, .string a1), (5, .slice o20000_3 l20000_3.length k20000_3), (6, .bool v6_3), (9, .slice a0_o a0.length a0_c), (10, .int .i64 ((a0.length : Nat) : Int)), (11, .int .i64 ((v11_1 + 1 : Nat) : Int))]) (mem' := [(1, r9 a0_o a0), (20000, o9 o20000_3 k20000_3 l20000_3)]) [1, 5, 6, 9, 10, 11] [(1, 1), (20000, 20000)] (by kernel_rfl) (by kernel_rfl) rfl ?_
          exact ih93 ⟨rs92, v6_3, v11_1 + 1, l20000_3, o20000_3, k20000_3⟩ ⟨drop_next hd58, hm⟩ (Nat.lt_succ_self _)

end Go.Proofs.Yticlccnajfjdeaa
