/-
  CHAPTER 20m: the functions do what their models say (5).
-/
import Derived.Test.YticlccnajfjdeaaW20md
set_option linter.unusedVariables false
set_option linter.unusedSimpArgs false
set_option maxRecDepth 100000
namespace Go.Proofs.Yticlccnajfjdeaa
open Go Go.RowKit Sx

theorem w_tholelaw20_awake (F : Nat) {y : Bool} (hm : m_tholelaw20_awake F = some y) : CallG Try.prog 8 #[] (X := Unit) (fun (_ : Unit) => .bool y) [] [] (fun (_ : Unit) => []) := by
  intro w hg
  rw [m_tholelaw20_awake] at hm
  refine GS.start (S := mayT [] []) (mem := []) Try.func8 rfl Try.ntmps8 (Nat.le_of_ble_eq_true rfl) (hg.start rfl) ?_
  refine GS.conv (env' := []) rfl rfl ?_
  refine GS.seq ?_
  refine GS.region (env' := fun _ => []) (mem' := fun _ => []) (RunsTo.mk [] [] [] (fun _ => []) (fun _ => by kernel_rfl) (fun _ => trivial)) ?_
  intro _
  refine GS.seq ?_
  refine GS.region (env' := fun fr2 => [(1, .pointer (some ⟨(fr2 6).x, 0, none⟩))]) (mem' := fun fr2 => [(1, .osl (some (Addr.mk (fr2 4).x 0 none)) 2 48 4 ([[.string (ByteArray.mk #[97]), .int .i64 1, .int .i64 1, .int .u32 0], [.string (ByteArray.mk #[99]), .int .i64 1, .int .i64 2, .int .u32 0]] : List (List Value))), (2, .cells ((fr2 6).x) 31 [.int .i64 0, .int .i64 0, .int .i64 0, .slice none 0 0, .slice none 0 0, .slice (some (Addr.mk (fr2 4).x 0 none)) ([(S_api_Item.mk (ByteArray.mk #[97]) (S_api_Version.mk 1 1) 0), (S_api_Item.mk (ByteArray.mk #[99]) (S_api_Version.mk 1 2) 0)].length) 2])]) (RunsTo.mk [(4, { act := .new (.row 2 4), key := some 1, spf := some (fun f => .slice (some (Addr.mk f.x 0 none)) ([(S_api_Item.mk (ByteArray.mk #[97]) (S_api_Version.mk 1 1) 0), (S_api_Item.mk (ByteArray.mk #[99]) (S_api_Version.mk 1 2) 0)].length) 2) }), (6, { act := .new .var, key := some 2 }), (7, { act := .store 0 0 [], key := some 2 })] [1] [1, 2] (fun fr2 => [((.slice (some (Addr.mk (fr2 4).x 0 none)) 2 2) : Value) = .slice (some (Addr.mk (fr2 4).x 0 none)) ([(S_api_Item.mk (ByteArray.mk #[97]) (S_api_Version.mk 1 1) 0), (S_api_Item.mk (ByteArray.mk #[99]) (S_api_Version.mk 1 2) 0)].length) 2, (fr2 6).x = (fr2 6).x, ((.agg #[.int .i64 0, .int .i64 0, .int .i64 0, .slice none 0 0, .slice none 0 0, .slice (some (Addr.mk (fr2 4).x 0 none)) ([(S_api_Item.mk (ByteArray.mk #[97]) (S_api_Version.mk 1 1) 0), (S_api_Item.mk (ByteArray.mk #[99]) (S_api_Version.mk 1 2) 0)].length) 2]) : Value).cells.toList.all Value.oneCell' = true]) (fun fr2 => by kernel_rfl) (fun fr2 => ⟨rfl, rfl, rfl, trivial⟩)) ?_
  intro fr2
  refine GS.conv (mem' := [(1, o48 (some (Addr.mk (fr2 4).x 0 none)) 2 [(S_api_Item.mk (ByteArray.mk #[97]) (S_api_Version.mk 1 1) 0), (S_api_Item.mk (ByteArray.mk #[99]) (S_api_Version.mk 1 2) 0)]), (2, .cells ((fr2 6).x) 31 [.int .i64 0, .int .i64 0, .int .i64 0, .slice none 0 0, .slice none 0 0, .slice (some (Addr.mk (fr2 4).x 0 none)) ([(S_api_Item.mk (ByteArray.mk #[97]) (S_api_Version.mk 1 1) 0), (S_api_Item.mk (ByteArray.mk #[99]) (S_api_Version.mk 1 2) 0)].length) 2])]) rfl (congrArg (fun rr : List (List Value) => ([(1, .osl (some (Addr.mk (fr2 4).x 0 none)) 2 48 4 rr), (2, .cells ((fr2 6).x) 31 [.int .i64 0, .int .i64 0, .int .i64 0, .slice none 0 0, .slice none 0 0, .slice (some (Addr.mk (fr2 4).x 0 none)) ([(S_api_Item.mk (ByteArray.mk #[97]) (S_api_Version.mk 1 1) 0), (S_api_Item.mk (ByteArray.mk #[99]) (S_api_Version.mk 1 2) 0)].length) 2])] : List (Nat × Ent))) (show ([[.string (ByteArray.mk #[97]), .int .i64 1, .int .i64 1, .int .u32 0], [.string (ByteArray.mk #[99]), .int .i64 1, .int .i64 2, .int .u32 0]] : List (List Value)) = List.map S_api_Item.row [(S_api_Item.mk (ByteArray.mk #[97]) (S_api_Version.mk 1 1) 0), (S_api_Item.mk (ByteArray.mk #[99]) (S_api_Version.mk 1 2) 0)] from rfl)) ?_
  refine GS.seq ?_
  refine GS.region (env' := fun fr3 => [(1, .pointer (some ⟨(fr2 6).x, 0, none⟩)), (2, .pointer (some ⟨(fr3 6).x, 0, none⟩))]) (mem' := fun fr3 => [(1, o48 (some (Addr.mk (fr2 4).x 0 none)) 2 [(S_api_Item.mk (ByteArray.mk #[97]) (S_api_Version.mk 1 1) 0), (S_api_Item.mk (ByteArray.mk #[99]) (S_api_Version.mk 1 2) 0)]), (2, .cells ((fr2 6).x) 31 [.int .i64 0, .int .i64 0, .int .i64 0, .slice none 0 0, .slice none 0 0, .slice (some (Addr.mk (fr2 4).x 0 none)) ([(S_api_Item.mk (ByteArray.mk #[97]) (S_api_Version.mk 1 1) 0), (S_api_Item.mk (ByteArray.mk #[99]) (S_api_Version.mk 1 2) 0)].length) 2]), (3, .osl (some (Addr.mk (fr3 4).x 0 none)) 2 48 4 ([[.string (ByteArray.mk #[97]), .int .i64 2, .int .i64 1, .int .u32 0], [.string (ByteArray.mk #[98]), .int .i64 2, .int .i64 2, .int .u32 0]] : List (List Value))), (4, .cells ((fr3 6).x) 31 [.int .i64 0, .int .i64 0, .int .i64 0, .slice none 0 0, .slice none 0 0, .slice (some (Addr.mk (fr3 4).x 0 none)) ([(S_api_Item.mk (ByteArray.mk #[97]) (S_api_Version.mk 2 1) 0), (S_api_Item.mk (ByteArray.mk #[98]) (S_api_Version.mk 2 2) 0)].length) 2])]) (RunsTo.mk [(4, { act := .new (.row 2 4), key := some 3, spf := some (fun f => .slice (some (Addr.mk f.x 0 none)) ([(S_api_Item.mk (ByteArray.mk #[97]) (S_api_Version.mk 2 1) 0), (S_api_Item.mk (ByteArray.mk #[98]) (S_api_Version.mk 2 2) 0)].length) 2) }), (6, { act := .new .var, key := some 4 }), (7, { act := .store 0 0 [], key := some 4 })] [1, 2] [1, 2, 3, 4] (fun fr3 => [((.slice (some (Addr.mk (fr3 4).x 0 none)) 2 2) : Value) = .slice (some (Addr.mk (fr3 4).x 0 none)) ([(S_api_Item.mk (ByteArray.mk #[97]) (S_api_Version.mk 2 1) 0), (S_api_Item.mk (ByteArray.mk #[98]) (S_api_Version.mk 2 2) 0)].length) 2, (fr3 6).x = (fr3 6).x, ((.agg #[.int .i64 0, .int .i64 0, .int .i64 0, .slice none 0 0, .slice none 0 0, .slice (some (Addr.mk (fr3 4).x 0 none)) ([(S_api_Item.mk (ByteArray.mk #[97]) (S_api_Version.mk 2 1) 0), (S_api_Item.mk (ByteArray.mk #[98]) (S_api_Version.mk 2 2) 0)].length) 2]) : Value).cells.toList.all Value.oneCell' = true]) (fun fr3 => by kernel_rfl) (fun fr3 => ⟨rfl, rfl, rfl, trivial⟩)) ?_
  intro fr3
  refine GS.conv (mem' := [(1, o48 (some (Addr.mk (fr2 4).x 0 none)) 2 [(S_api_Item.mk (ByteArray.mk #[97]) (S_api_Version.mk 1 1) 0), (S_api_Item.mk (ByteArray.mk #[99]) (S_api_Version.mk 1 2) 0)]), (2, .cells ((fr2 6).x) 31 [.int .i64 0, .int .i64 0, .int .i64 0, .slice none 0 0, .slice none 0 0, .slice (some (Addr.mk (fr2 4).x 0 none)) ([(S_api_Item.mk (ByteArray.mk #[97]) (S_api_Version.mk 1 1) 0), (S_api_Item.mk (ByteArray.mk #[99]) (S_api_Version.mk 1 2) 0)].length) 2]), (3, o48 (some (Addr.mk (fr3 4).x 0 none)) 2 [(S_api_Item.mk (ByteArray.mk #[97]) (S_api_Version.mk 2 1) 0), (S_api_Item.mk (ByteArray.mk #[98]) (S_api_Version.mk 2 2) 0)]), (4, .cells ((fr3 6).x) 31 [.int .i64 0, .int .i64 0, .int .i64 0, .slice none 0 0, .slice none 0 0, .slice (some (Addr.mk (fr3 4).x 0 none)) ([(S_api_Item.mk (ByteArray.mk #[97]) (S_api_Version.mk 2 1) 0), (S_api_Item.mk (ByteArray.mk #[98]) (S_api_Version.mk 2 2) 0)].length) 2])]) rfl (congrArg (fun rr : List (List Value) => ([(1, o48 (some (Addr.mk (fr2 4).x 0 none)) 2 [(S_api_Item.mk (ByteArray.mk #[97]) (S_api_Version.mk 1 1) 0), (S_api_Item.mk (ByteArray.mk #[99]) (S_api_Version.mk 1 2) 0)]), (2, .cells ((fr2 6).x) 31 [.int .i64 0, .int .i64 0, .int .i64 0, .slice none 0 0, .slice none 0 0, .slice (some (Addr.mk (fr2 4).x 0 none)) ([(S_api_Item.mk (ByteArray.mk #[97]) (S_api_Version.mk 1 1) 0), (S_api_Item.mk (ByteArray.mk #[99]) (S_api_Version.mk 1 2) 0)].length) 2]), (3, .osl (some (Addr.mk (fr3 4).x 0 none)) 2 48 4 rr), (4, .cells ((fr3 6).x) 31 [.int .i64 0, .int .i64 0, .int .i64 0, .slice none 0 0, .slice none 0 0, .slice (some (Addr.mk (fr3 4).x 0 none)) ([(S_api_Item.mk (ByteArray.mk #[97]) (S_api_Version.mk 2 1) 0), (S_api_Item.mk (ByteArray.mk #[98]) (S_api_Version.mk 2 2) 0)].length) 2])] : List (Nat × Ent))) (show ([[.string (ByteArray.mk #[97]), .int .i64 2, .int .i64 1, .int .u32 0], [.string (ByteArray.mk #[98]), .int .i64 2, .int .i64 2, .int .u32 0]] : List (List Value)) = List.map S_api_Item.row [(S_api_Item.mk (ByteArray.mk #[97]) (S_api_Version.mk 2 1) 0), (S_api_Item.mk (ByteArray.mk #[98]) (S_api_Version.mk 2 2) 0)] from rfl)) ?_
  refine GS.seq ?_
  refine bnd_elim hm (fun y5 e6 hm => ?_)
  refine GS.open_ ?_
  refine GR.run (i := 0) 2 (env' := fun _ => [(20, .agg #[.int .i64 0, .int .i64 0, .int .i64 0, .slice none 0 0, .slice none 0 0, .slice (some (Addr.mk (fr2 4).x 0 none)) ([(S_api_Item.mk (ByteArray.mk #[97]) (S_api_Version.mk 1 1) 0), (S_api_Item.mk (ByteArray.mk #[99]) (S_api_Version.mk 1 2) 0)].length) 2]), (21, .agg #[.int .i64 0, .int .i64 0, .int .i64 0, .slice none 0 0, .slice none 0 0, .slice (some (Addr.mk (fr3 4).x 0 none)) ([(S_api_Item.mk (ByteArray.mk #[97]) (S_api_Version.mk 2 1) 0), (S_api_Item.mk (ByteArray.mk #[98]) (S_api_Version.mk 2 2) 0)].length) 2])]) (mem' := fun _ => [(1, o48 (some (Addr.mk (fr2 4).x 0 none)) 2 [(S_api_Item.mk (ByteArray.mk #[97]) (S_api_Version.mk 1 1) 0), (S_api_Item.mk (ByteArray.mk #[99]) (S_api_Version.mk 1 2) 0)]), (3, o48 (some (Addr.mk (fr3 4).x 0 none)) 2 [(S_api_Item.mk (ByteArray.mk #[97]) (S_api_Version.mk 2 1) 0), (S_api_Item.mk (ByteArray.mk #[98]) (S_api_Version.mk 2 2) 0)])]) (Nat.le_of_ble_eq_true (by kernel_rfl)) (RunsTo.mk [(0, { act := .load 2 0 0 [] }), (1, { act := .load 4 0 0 [] })] [20, 21] [1, 3] (fun _ => [(fr2 6).x = (fr2 6).x, (fr3 6).x = (fr3 6).x]) (fun _ => by kernel_rfl) (fun _ => ⟨rfl, rfl, trivial⟩)) ?_
  intro _
  refine GR.callG (X := Option Addr × Nat × Option Addr × Nat) (i := 2) (g := 11) (args := #[.agg #[.int .i64 0, .int .i64 0, .int .i64 0, .slice none 0 0, .slice none 0 0, .slice (some (Addr.mk (fr2 4).x 0 none)) ([(S_api_Item.mk (ByteArray.mk #[97]) (S_api_Version.mk 1 1) 0), (S_api_Item.mk (ByteArray.mk #[99]) (S_api_Version.mk 1 2) 0)].length) 2], .agg #[.int .i64 0, .int .i64 0, .int .i64 0, .slice none 0 0, .slice none 0 0, .slice (some (Addr.mk (fr3 4).x 0 none)) ([(S_api_Item.mk (ByteArray.mk #[97]) (S_api_Version.mk 2 1) 0), (S_api_Item.mk (ByteArray.mk #[98]) (S_api_Version.mk 2 2) 0)].length) 2]]) (v := fun ⟨x7, x8, x9, x10⟩ => .tuple #[.slice x7 y5.1.length x8, .slice x9 y5.2.length x10]) (own := []) (ro := [r58 none ([] : List S_api_Entry), r78 none ([] : List S_api_Last), r48 (some (Addr.mk (fr2 4).x 0 none)) [(S_api_Item.mk (ByteArray.mk #[97]) (S_api_Version.mk 1 1) 0), (S_api_Item.mk (ByteArray.mk #[99]) (S_api_Version.mk 1 2) 0)], r58 none ([] : List S_api_Entry), r78 none ([] : List S_api_Last), r48 (some (Addr.mk (fr3 4).x 0 none)) [(S_api_Item.mk (ByteArray.mk #[97]) (S_api_Version.mk 2 1) 0), (S_api_Item.mk (ByteArray.mk #[98]) (S_api_Version.mk 2 2) 0)]]) (es' := fun ⟨x7, x8, x9, x10⟩ => [o48 x7 x8 y5.1, o9 x9 x10 y5.2]) (mem' := fun ⟨x7, x8, x9, x10⟩ => [(1, o48 (some (Addr.mk (fr2 4).x 0 none)) 2 [(S_api_Item.mk (ByteArray.mk #[97]) (S_api_Version.mk 1 1) 0), (S_api_Item.mk (ByteArray.mk #[99]) (S_api_Version.mk 1 2) 0)]), (3, o48 (some (Addr.mk (fr3 4).x 0 none)) 2 [(S_api_Item.mk (ByteArray.mk #[97]) (S_api_Version.mk 2 1) 0), (S_api_Item.mk (ByteArray.mk #[98]) (S_api_Version.mk 2 2) 0)]), (5, o48 x7 x8 y5.1), (6, o9 x9 x10 y5.2)]) (env' := fun ⟨x7, x8, x9, x10⟩ => [(22, .tuple #[.slice x7 y5.1.length x8, .slice x9 y5.2.length x10])]) [] [5, 6] [22] [1, 3, 5, 6] false (by kernel_rfl) (by kernel_rfl) (by kernel_rfl) (by kernel_rfl) (by kernel_rfl) (fun _ => rfl) (fun _ _ => rfl) ⟨(.inr NilE.rd), (.inr NilE.rd), (.inl ⟨1, _, rfl, rfl, Cov.osl_rd, fun h => by cases h⟩), (.inr NilE.rd), (.inr NilE.rd), (.inl ⟨3, _, rfl, rfl, Cov.osl_rd, fun h => by cases h⟩), trivial⟩ (by rintro ⟨x7, x8, x9, x10⟩; kernel_rfl) (by rintro ⟨x7, x8, x9, x10⟩; kernel_rfl) (w_backfill_Plan F 0 (S_api_Version.mk 0 0) none 0 ([] : List S_api_Entry) none 0 ([] : List S_api_Last) (some (Addr.mk (fr2 4).x 0 none)) 2 [(S_api_Item.mk (ByteArray.mk #[97]) (S_api_Version.mk 1 1) 0), (S_api_Item.mk (ByteArray.mk #[99]) (S_api_Version.mk 1 2) 0)] 0 (S_api_Version.mk 0 0) none 0 ([] : List S_api_Entry) none 0 ([] : List S_api_Last) (some (Addr.mk (fr3 4).x 0 none)) 2 [(S_api_Item.mk (ByteArray.mk #[97]) (S_api_Version.mk 2 1) 0), (S_api_Item.mk (ByteArray.mk #[98]) (S_api_Version.mk 2 2) 0)] e6) ?_
  rintro ⟨x7, x8, x9, x10⟩
  refine GR.run (i := 3) 5 (env' := fun _ => [(3, .slice x7 y5.1.length x8), (4, .slice x9 y5.2.length x10)]) (mem' := fun _ => [(5, o48 x7 x8 y5.1), (6, o9 x9 x10 y5.2)]) (Nat.le_of_ble_eq_true (by kernel_rfl)) (RunsTo.mk [] [3, 4] [5, 6] (fun _ => []) (fun _ => by kernel_rfl) (fun _ => trivial)) ?_
  intro _
  refine GR.done (Nat.le_of_ble_eq_true (by kernel_rfl)) ?_
  refine GS.seq ?_
  refine bnd_elim hm (fun y13 e14 hm => ?_)
  refine GS.open_ ?_
  refine GR.run (i := 0) 1 (env' := fun _ => [(3, .slice x7 y5.1.length x8), (4, .slice x9 y5.2.length x10), (26, .slice x7 y5.1.length x8)]) (mem' := fun _ => [(5, o48 x7 x8 y5.1), (6, o9 x9 x10 y5.2)]) (Nat.le_of_ble_eq_true (by kernel_rfl)) (RunsTo.mk [] [3, 4, 26] [5, 6] (fun _ => []) (fun _ => by kernel_rfl) (fun _ => trivial)) ?_
  intro _
  refine GR.callG (X := Option Addr × Nat) (i := 1) (g := 14) (args := #[.slice x7 y5.1.length x8, .string (ByteArray.mk #[]), .int .i64 1]) (v := fun ⟨x15, x16⟩ => .tuple #[.slice x15 y13.1.length x16, .bool y13.2]) (own := []) (ro := [r48 x7 y5.1]) (es' := fun ⟨x15, x16⟩ => [o48 x15 x16 y13.1]) (mem' := fun ⟨x15, x16⟩ => [(5, o48 x7 x8 y5.1), (6, o9 x9 x10 y5.2), (7, o48 x15 x16 y13.1)]) (env' := fun ⟨x15, x16⟩ => [(3, .slice x7 y5.1.length x8), (4, .slice x9 y5.2.length x10), (27, .tuple #[.slice x15 y13.1.length x16, .bool y13.2])]) [] [7] [3, 4, 27] [5, 6, 7] false (by kernel_rfl) (by kernel_rfl) (by kernel_rfl) (by kernel_rfl) (by kernel_rfl) (fun _ => rfl) (fun _ _ => rfl) ⟨(.inl ⟨5, _, rfl, rfl, Cov.osl_rd, fun h => by cases h⟩), trivial⟩ (by rintro ⟨x15, x16⟩; kernel_rfl) (by rintro ⟨x15, x16⟩; kernel_rfl) (w_backfill_Batch F x7 x8 y5.1 (ByteArray.mk #[]) 1 e14) ?_
  rintro ⟨x15, x16⟩
  refine GR.run (i := 2) 5 (env' := fun _ => [(3, .slice x7 y5.1.length x8), (4, .slice x9 y5.2.length x10), (5, .slice x15 y13.1.length x16), (6, .bool y13.2)]) (mem' := fun _ => [(5, o48 x7 x8 y5.1), (6, o9 x9 x10 y5.2), (7, o48 x15 x16 y13.1)]) (Nat.le_of_ble_eq_true (by kernel_rfl)) (RunsTo.mk [] [3, 4, 5, 6] [5, 6, 7] (fun _ => []) (fun _ => by kernel_rfl) (fun _ => trivial)) ?_
  intro _
  refine GR.done (Nat.le_of_ble_eq_true (by kernel_rfl)) ?_
  refine GS.seq ?_
  refine br_elim hm (fun h19 hm => ?_) (fun h19 hm => ?_)
  · skip
    refine br_elim hm (fun h20 hm => ?_) (fun h20 hm => ?_)
    · skip
      refine grd_elim hm (fun g21 hm => ?_)
      refine br_elim hm (fun h22 hm => ?_) (fun h22 hm => ?_)
      · skip
        refine br_elim hm (fun h23 hm => ?_) (fun h23 hm => ?_)
        · skip
          refine GS.region (env' := fun _ => [(0, .bool y13.2)]) (mem' := fun _ => []) (RunsTo.mk [(3, { sp := some (.bool true) }), (8, { sp := some (.bool true) }), (10, { act := .idx 6 0 }), (11, { act := .load 6 0 0 [.string (y5.2.getD 0 (ByteArray.mk #[]))] }), (14, { sp := some (.bool true) }), (19, { sp := some (.bool true) })] [0] [] (fun _ => [((.bool (((y5.1.length : Nat) : Int) == 2)) : Value) = .bool true, ((.bool (((y5.2.length : Nat) : Int) == 1)) : Value) = .bool true, x9 = x9, y5.2.length = (List.map rS y5.2).length, (0 : Int) = ((0 : Nat) : Int), 0 < y5.2.length, blk x9 = blk x9, offs x9 + 0 * 1 = offs x9 + (0 * 1 + 0), (List.map rS y5.2)[0]? = some [.string (y5.2.getD 0 (ByteArray.mk #[]))], ((.bool ((y5.2.getD 0 (ByteArray.mk #[])).toList == (ByteArray.mk #[99]).toList)) : Value) = .bool true, ((.bool (((y13.1.length : Nat) : Int) == 1)) : Value) = .bool true]) (fun _ => by kernel_rfl) (fun _ => ⟨bool_eq h19, bool_eq h20, rfl, mlen rS y5.2, rfl, g21, rfl, rfl, map_at rS (ByteArray.mk #[]) g21, bool_eq h22, bool_eq h23, trivial⟩)) ?_
          intro _
          have hy := Option.some.inj hm
          subst hy
          refine GS.ret (fn := Try.f8) [0] [.bool y13.2] [] rfl Try.func8 (by kernel_rfl) trivial (fun w' hs => ?_)
          exact ⟨(), rfl, hs.turnedG (ks := []) rfl rfl⟩
        · skip
          refine GS.region (env' := fun _ => [(0, .bool false)]) (mem' := fun _ => []) (RunsTo.mk [(3, { sp := some (.bool true) }), (8, { sp := some (.bool true) }), (10, { act := .idx 6 0 }), (11, { act := .load 6 0 0 [.string (y5.2.getD 0 (ByteArray.mk #[]))] }), (14, { sp := some (.bool true) }), (19, { sp := some (.bool false) })] [0] [] (fun _ => [((.bool (((y5.1.length : Nat) : Int) == 2)) : Value) = .bool true, ((.bool (((y5.2.length : Nat) : Int) == 1)) : Value) = .bool true, x9 = x9, y5.2.length = (List.map rS y5.2).length, (0 : Int) = ((0 : Nat) : Int), 0 < y5.2.length, blk x9 = blk x9, offs x9 + 0 * 1 = offs x9 + (0 * 1 + 0), (List.map rS y5.2)[0]? = some [.string (y5.2.getD 0 (ByteArray.mk #[]))], ((.bool ((y5.2.getD 0 (ByteArray.mk #[])).toList == (ByteArray.mk #[99]).toList)) : Value) = .bool true, ((.bool (((y13.1.length : Nat) : Int) == 1)) : Value) = .bool false]) (fun _ => by kernel_rfl) (fun _ => ⟨bool_eq h19, bool_eq h20, rfl, mlen rS y5.2, rfl, g21, rfl, rfl, map_at rS (ByteArray.mk #[]) g21, bool_eq h22, bool_eq h23, trivial⟩)) ?_
          intro _
          have hy := Option.some.inj hm
          subst hy
          refine GS.ret (fn := Try.f8) [0] [.bool false] [] rfl Try.func8 (by kernel_rfl) trivial (fun w' hs => ?_)
          exact ⟨(), rfl, hs.turnedG (ks := []) rfl rfl⟩
      · skip
        refine GS.region (env' := fun _ => [(0, .bool false)]) (mem' := fun _ => []) (RunsTo.mk [(3, { sp := some (.bool true) }), (8, { sp := some (.bool true) }), (10, { act := .idx 6 0 }), (11, { act := .load 6 0 0 [.string (y5.2.getD 0 (ByteArray.mk #[]))] }), (14, { sp := some (.bool false) })] [0] [] (fun _ => [((.bool (((y5.1.length : Nat) : Int) == 2)) : Value) = .bool true, ((.bool (((y5.2.length : Nat) : Int) == 1)) : Value) = .bool true, x9 = x9, y5.2.length = (List.map rS y5.2).length, (0 : Int) = ((0 : Nat) : Int), 0 < y5.2.length, blk x9 = blk x9, offs x9 + 0 * 1 = offs x9 + (0 * 1 + 0), (List.map rS y5.2)[0]? = some [.string (y5.2.getD 0 (ByteArray.mk #[]))], ((.bool ((y5.2.getD 0 (ByteArray.mk #[])).toList == (ByteArray.mk #[99]).toList)) : Value) = .bool false]) (fun _ => by kernel_rfl) (fun _ => ⟨bool_eq h19, bool_eq h20, rfl, mlen rS y5.2, rfl, g21, rfl, rfl, map_at rS (ByteArray.mk #[]) g21, bool_eq h22, trivial⟩)) ?_
        intro _
        have hy := Option.some.inj hm
        subst hy
        refine GS.ret (fn := Try.f8) [0] [.bool false] [] rfl Try.func8 (by kernel_rfl) trivial (fun w' hs => ?_)
        exact ⟨(), rfl, hs.turnedG (ks := []) rfl rfl⟩
    · skip
      refine GS.region (env' := fun _ => [(0, .bool false)]) (mem' := fun _ => []) (RunsTo.mk [(3, { sp := some (.bool true) }), (8, { sp := some (.bool false) })] [0] [] (fun _ => [((.bool (((y5.1.length : Nat) : Int) == 2)) : Value) = .bool true, ((.bool (((y5.2.length : Nat) : Int) == 1)) : Value) = .bool false]) (fun _ => by kernel_rfl) (fun _ => ⟨bool_eq h19, bool_eq h20, trivial⟩)) ?_
      intro _
      have hy := Option.some.inj hm
      subst hy
      refine GS.ret (fn := Try.f8) [0] [.bool false] [] rfl Try.func8 (by kernel_rfl) trivial (fun w' hs => ?_)
      exact ⟨(), rfl, hs.turnedG (ks := []) rfl rfl⟩
  · skip
    refine GS.region (env' := fun _ => [(0, .bool false)]) (mem' := fun _ => []) (RunsTo.mk [(3, { sp := some (.bool false) })] [0] [] (fun _ => [((.bool (((y5.1.length : Nat) : Int) == 2)) : Value) = .bool false]) (fun _ => by kernel_rfl) (fun _ => ⟨bool_eq h19, trivial⟩)) ?_
    intro _
    have hy := Option.some.inj hm
    subst hy
    refine GS.ret (fn := Try.f8) [0] [.bool false] [] rfl Try.func8 (by kernel_rfl) trivial (fun w' hs => ?_)
    exact ⟨(), rfl, hs.turnedG (ks := []) rfl rfl⟩

theorem w_tholeref13_Head (F : Nat) (a0_Les : Int) (a0_Tail : S_api_Version) (a0_Log_o : Option Addr) (a0_Log_c : Nat) (a0_Log : List S_api_Entry) (a0_Lasts_o : Option Addr) (a0_Lasts_c : Nat) (a0_Lasts : List S_api_Last) (a0_Items_o : Option Addr) (a0_Items_c : Nat) (a0_Items : List S_api_Item) {y : S_api_Version} (hm : m_tholeref13_Head F a0_Les a0_Tail a0_Log a0_Lasts a0_Items = some y) : CallG Try.prog 23 #[.agg #[.int .i64 a0_Les, .int .i64 a0_Tail.Epoch, .int .i64 a0_Tail.N, .slice a0_Log_o a0_Log.length a0_Log_c, .slice a0_Lasts_o a0_Lasts.length a0_Lasts_c, .slice a0_Items_o a0_Items.length a0_Items_c]] (X := Unit) (fun (_ : Unit) => .agg #[.int .i64 y.Epoch, .int .i64 y.N]) [] [r58 a0_Log_o a0_Log, r78 a0_Lasts_o a0_Lasts, r48 a0_Items_o a0_Items] (fun (_ : Unit) => []) := by
  intro w hg
  rw [m_tholeref13_Head] at hm
  refine GS.start (S := mayT [] [r58 a0_Log_o a0_Log, r78 a0_Lasts_o a0_Lasts, r48 a0_Items_o a0_Items]) (mem := [(1, r58 a0_Log_o a0_Log), (2, r78 a0_Lasts_o a0_Lasts), (3, r48 a0_Items_o a0_Items)]) Try.func23 rfl Try.ntmps23 (Nat.le_of_ble_eq_true rfl) (hg.start rfl) ?_
  refine GS.conv (env' := [(0, .agg #[.int .i64 a0_Les, .int .i64 a0_Tail.Epoch, .int .i64 a0_Tail.N, .slice a0_Log_o a0_Log.length a0_Log_c, .slice a0_Lasts_o a0_Lasts.length a0_Lasts_c, .slice a0_Items_o a0_Items.length a0_Items_c])]) rfl rfl ?_
  refine GS.seq ?_
  refine GS.region (env' := fun fr1 => [(1, .pointer (some ⟨(fr1 0).x, 0, none⟩)), (2, .pointer (some ⟨(fr1 1).x, 0, none⟩))]) (mem' := fun fr1 => [(1, r58 a0_Log_o a0_Log), (2, r78 a0_Lasts_o a0_Lasts), (3, r48 a0_Items_o a0_Items), (4, .cells ((fr1 0).x) 31 [.int .i64 a0_Les, .int .i64 a0_Tail.Epoch, .int .i64 a0_Tail.N, .slice a0_Log_o a0_Log.length a0_Log_c, .slice a0_Lasts_o a0_Lasts.length a0_Lasts_c, .slice a0_Items_o a0_Items.length a0_Items_c]), (5, .cells ((fr1 1).x) 26 [.int .i64 0, .int .i64 0])]) (RunsTo.mk [(0, { act := .new .var, key := some 4 }), (1, { act := .new .var, key := some 5 })] [1, 2] [1, 2, 3, 4, 5] (fun fr1 => []) (fun fr1 => by kernel_rfl) (fun fr1 => trivial)) ?_
  intro fr1
  refine GS.seq ?_
  refine GS.seq ?_
  refine GS.region (env' := fun _ => [(1, .pointer (some ⟨(fr1 0).x, 0, none⟩)), (2, .pointer (some ⟨(fr1 1).x, 0, none⟩)), (6, .bool (((a0_Log.length : Nat) : Int) == 0))]) (mem' := fun _ => [(1, r58 a0_Log_o a0_Log), (2, r78 a0_Lasts_o a0_Lasts), (3, r48 a0_Items_o a0_Items), (4, .cells ((fr1 0).x) 31 [.int .i64 a0_Les, .int .i64 a0_Tail.Epoch, .int .i64 a0_Tail.N, .slice a0_Log_o a0_Log.length a0_Log_c, .slice a0_Lasts_o a0_Lasts.length a0_Lasts_c, .slice a0_Items_o a0_Items.length a0_Items_c]), (5, .cells ((fr1 1).x) 26 [.int .i64 0, .int .i64 0])]) (RunsTo.mk [(1, { act := .load 4 0 0 [] })] [1, 2, 6] [1, 2, 3, 4, 5] (fun _ => [(fr1 0).x = (fr1 0).x]) (fun _ => by kernel_rfl) (fun _ => ⟨rfl, trivial⟩)) ?_
  intro _
  refine GS.cond (t := ((a0_Log.length : Nat) : Int) == 0) rfl rfl (fun h3 => ?_) (fun h3 => ?_)
  · replace hm := br_t h3 hm
    refine GS.seq ?_
    refine GS.region (env' := fun _ => [(2, .pointer (some ⟨(fr1 1).x, 0, none⟩))]) (mem' := fun _ => [(5, .cells ((fr1 1).x) 26 [.int .i64 a0_Tail.Epoch, .int .i64 a0_Tail.N])]) (RunsTo.mk [(1, { act := .load 4 0 0 [] }), (2, { act := .store 0 0 [], key := some 5 })] [2] [5] (fun _ => [(fr1 0).x = (fr1 0).x, (fr1 1).x = (fr1 1).x, ((.agg #[.int .i64 a0_Tail.Epoch, .int .i64 a0_Tail.N]) : Value).cells.toList.all Value.oneCell' = true]) (fun _ => by kernel_rfl) (fun _ => ⟨rfl, rfl, rfl, trivial⟩)) ?_
    intro _
    have hy := Option.some.inj hm
    subst hy
    refine GS.ret (fn := Try.f23) [5] [.agg #[.int .i64 a0_Tail.Epoch, .int .i64 a0_Tail.N]] [(fr1 1).x = (fr1 1).x] rfl Try.func23 (by kernel_rfl) ⟨rfl, trivial⟩ (fun w' hs => ?_)
    exact ⟨(), rfl, hs.turnedG (ks := []) rfl rfl⟩
  · replace hm := br_f h3 hm
    refine GS.skip ?_
    refine GS.seq ?_
    refine grd_elim hm (fun g6 hm => ?_)
    refine grd_elim hm (fun g7 hm => ?_)
    refine GS.region (env' := fun _ => [(2, .pointer (some ⟨(fr1 1).x, 0, none⟩))]) (mem' := fun _ => [(5, .cells ((fr1 1).x) 26 [.int .i64 (((a0_Log.getD (Int.toNat (((a0_Log.length : Nat) : Int) - 1)) dS_api_Entry).Version).Epoch), .int .i64 (((a0_Log.getD (Int.toNat (((a0_Log.length : Nat) : Int) - 1)) dS_api_Entry).Version).N)])]) (RunsTo.mk [(1, { act := .load 4 0 0 [] }), (3, { act := .load 4 0 0 [] }), (5, { sp := some (.int .i64 (((a0_Log.length : Nat) : Int) - 1)) }), (6, { act := .idx 1 (Int.toNat (((a0_Log.length : Nat) : Int) - 1)) }), (8, { act := .load 1 (Int.toNat (((a0_Log.length : Nat) : Int) - 1)) 0 [.int .i64 (((a0_Log.getD (Int.toNat (((a0_Log.length : Nat) : Int) - 1)) dS_api_Entry).Version).Epoch), .int .i64 (((a0_Log.getD (Int.toNat (((a0_Log.length : Nat) : Int) - 1)) dS_api_Entry).Version).N), .bool ((a0_Log.getD (Int.toNat (((a0_Log.length : Nat) : Int) - 1)) dS_api_Entry).Remove), .int .i64 ((a0_Log.getD (Int.toNat (((a0_Log.length : Nat) : Int) - 1)) dS_api_Entry).Errno), .string ((a0_Log.getD (Int.toNat (((a0_Log.length : Nat) : Int) - 1)) dS_api_Entry).Name), .int .i64 ((a0_Log.getD (Int.toNat (((a0_Log.length : Nat) : Int) - 1)) dS_api_Entry).Client), .int .i64 ((a0_Log.getD (Int.toNat (((a0_Log.length : Nat) : Int) - 1)) dS_api_Entry).Number)] }), (9, { act := .store 0 0 [], key := some 5 })] [2] [5] (fun _ => [(fr1 0).x = (fr1 0).x, (fr1 0).x = (fr1 0).x, ((.int .i64 (IntKind.i64.wrap (((a0_Log.length : Nat) : Int) - 1))) : Value) = .int .i64 (((a0_Log.length : Nat) : Int) - 1), a0_Log_o = a0_Log_o, a0_Log.length = (List.map S_api_Entry.row a0_Log).length, ((((a0_Log.length : Nat) : Int) - 1) : Int) = (((Int.toNat (((a0_Log.length : Nat) : Int) - 1)) : Nat) : Int), (Int.toNat (((a0_Log.length : Nat) : Int) - 1)) < a0_Log.length, blk a0_Log_o = blk a0_Log_o, offs a0_Log_o + (Int.toNat (((a0_Log.length : Nat) : Int) - 1)) * 7 = offs a0_Log_o + ((Int.toNat (((a0_Log.length : Nat) : Int) - 1)) * 7 + 0), (List.map S_api_Entry.row a0_Log)[(Int.toNat (((a0_Log.length : Nat) : Int) - 1))]? = some [.int .i64 (((a0_Log.getD (Int.toNat (((a0_Log.length : Nat) : Int) - 1)) dS_api_Entry).Version).Epoch), .int .i64 (((a0_Log.getD (Int.toNat (((a0_Log.length : Nat) : Int) - 1)) dS_api_Entry).Version).N), .bool ((a0_Log.getD (Int.toNat (((a0_Log.length : Nat) : Int) - 1)) dS_api_Entry).Remove), .int .i64 ((a0_Log.getD (Int.toNat (((a0_Log.length : Nat) : Int) - 1)) dS_api_Entry).Errno), .string ((a0_Log.getD (Int.toNat (((a0_Log.length : Nat) : Int) - 1)) dS_api_Entry).Name), .int .i64 ((a0_Log.getD (Int.toNat (((a0_Log.length : Nat) : Int) - 1)) dS_api_Entry).Client), .int .i64 ((a0_Log.getD (Int.toNat (((a0_Log.length : Nat) : Int) - 1)) dS_api_Entry).Number)], (fr1 1).x = (fr1 1).x, ((.agg #[.int .i64 (((a0_Log.getD (Int.toNat (((a0_Log.length : Nat) : Int) - 1)) dS_api_Entry).Version).Epoch), .int .i64 (((a0_Log.getD (Int.toNat (((a0_Log.length : Nat) : Int) - 1)) dS_api_Entry).Version).N)]) : Value).cells.toList.all Value.oneCell' = true]) (fun _ => by kernel_rfl) (fun _ => ⟨rfl, rfl, I64.w g6, rfl, mlen S_api_Entry.row a0_Log, g7.eq, g7.2, rfl, rfl, map_at S_api_Entry.row dS_api_Entry g7.2, rfl, rfl, trivial⟩)) ?_
    intro _
    have hy := Option.some.inj hm
    subst hy
    refine GS.ret (fn := Try.f23) [5] [.agg #[.int .i64 (((a0_Log.getD (Int.toNat (((a0_Log.length : Nat) : Int) - 1)) dS_api_Entry).Version).Epoch), .int .i64 (((a0_Log.getD (Int.toNat (((a0_Log.length : Nat) : Int) - 1)) dS_api_Entry).Version).N)]] [(fr1 1).x = (fr1 1).x] rfl Try.func23 (by kernel_rfl) ⟨rfl, trivial⟩ (fun w' hs => ?_)
    exact ⟨(), rfl, hs.turnedG (ks := []) rfl rfl⟩

theorem w_tholeref13_Cmp (F : Nat) (a0 : S_api_Version) (a1 : S_api_Version) {y : Int} (hm : m_tholeref13_Cmp F a0 a1 = some y) : CallG Try.prog 40 #[.agg #[.int .i64 a0.Epoch, .int .i64 a0.N], .agg #[.int .i64 a1.Epoch, .int .i64 a1.N]] (X := Unit) (fun (_ : Unit) => .int .i64 y) [] [] (fun (_ : Unit) => []) := by
  intro w hg
  rw [m_tholeref13_Cmp] at hm
  refine GS.start (S := mayT [] []) (mem := []) Try.func40 rfl Try.ntmps40 (Nat.le_of_ble_eq_true rfl) (hg.start rfl) ?_
  refine GS.conv (env' := [(0, .agg #[.int .i64 a0.Epoch, .int .i64 a0.N]), (1, .agg #[.int .i64 a1.Epoch, .int .i64 a1.N])]) rfl rfl ?_
  refine GS.seq ?_
  refine GS.region (env' := fun fr1 => [(2, .pointer (some ⟨(fr1 0).x, 0, none⟩)), (3, .pointer (some ⟨(fr1 1).x, 0, none⟩))]) (mem' := fun fr1 => [(1, .cells ((fr1 0).x) 26 [.int .i64 a0.Epoch, .int .i64 a0.N]), (2, .cells ((fr1 1).x) 26 [.int .i64 a1.Epoch, .int .i64 a1.N])]) (RunsTo.mk [(0, { act := .new .var, key := some 1 }), (1, { act := .new .var, key := some 2 })] [2, 3] [1, 2] (fun fr1 => []) (fun fr1 => by kernel_rfl) (fun fr1 => trivial)) ?_
  intro fr1
  refine GS.seq ?_
  refine GS.block ?_
  refine GS.seq ?_
  refine GS.seq ?_
  refine GS.region (env' := fun _ => [(2, .pointer (some ⟨(fr1 0).x, 0, none⟩)), (3, .pointer (some ⟨(fr1 1).x, 0, none⟩)), (5, .bool (decide (a0.Epoch < a1.Epoch)))]) (mem' := fun _ => [(1, .cells ((fr1 0).x) 26 [.int .i64 a0.Epoch, .int .i64 a0.N]), (2, .cells ((fr1 1).x) 26 [.int .i64 a1.Epoch, .int .i64 a1.N])]) (RunsTo.mk [(1, { act := .load 1 0 0 [] }), (3, { act := .load 2 0 0 [] })] [2, 3, 5] [1, 2] (fun _ => [(fr1 0).x = (fr1 0).x, (fr1 1).x = (fr1 1).x]) (fun _ => by kernel_rfl) (fun _ => ⟨rfl, rfl, trivial⟩)) ?_
  intro _
  refine jn_elim hm (fun J9 hJ11 hm => ?_)
  refine GS.cut (ι := Bool) (I := fun (v5_2 : Bool) => J9 v5_2 = some y) (E := fun (v5_2 : Bool) => [(2, .pointer (some ⟨(fr1 0).x, 0, none⟩)), (3, .pointer (some ⟨(fr1 1).x, 0, none⟩)), (5, .bool v5_2)]) (M := fun (v5_2 : Bool) => [(1, .cells ((fr1 0).x) 26 [.int .i64 a0.Epoch, .int .i64 a0.N]), (2, .cells ((fr1 1).x) 26 [.int .i64 a1.Epoch, .int .i64 a1.N])]) ?_ ?_
  rotate_left
  · intro H10
    refine GS.cond (t := decide (a0.Epoch < a1.Epoch)) rfl rfl (fun h3 => ?_) (fun h3 => ?_)
    · replace hm := br_t h3 hm
      refine GS.skip ?_
      refine GS.rekey (env' := [(2, .pointer (some ⟨(fr1 0).x, 0, none⟩)), (3, .pointer (some ⟨(fr1 1).x, 0, none⟩)), (5, .bool (decide (a0.Epoch < a1.Epoch)))]) (mem' := [(1, .cells ((fr1 0).x) 26 [.int .i64 a0.Epoch, .int .i64 a0.N]), (2, .cells ((fr1 1).x) 26 [.int .i64 a1.Epoch, .int .i64 a1.N])]) [2, 3, 5] [(1, 1), (2, 2)] (by kernel_rfl) (by kernel_rfl) rfl ?_
      exact H10 (decide (a0.Epoch < a1.Epoch)) hm
    · replace hm := br_f h3 hm
      refine br_elim hm (fun h5 hm => ?_) (fun h5 hm => ?_)
      · skip
        refine GS.region (env' := fun _ => [(2, .pointer (some ⟨(fr1 0).x, 0, none⟩)), (3, .pointer (some ⟨(fr1 1).x, 0, none⟩)), (5, .bool (decide (a0.N < a1.N)))]) (mem' := fun _ => [(1, .cells ((fr1 0).x) 26 [.int .i64 a0.Epoch, .int .i64 a0.N]), (2, .cells ((fr1 1).x) 26 [.int .i64 a1.Epoch, .int .i64 a1.N])]) (RunsTo.mk [(1, { act := .load 1 0 0 [] }), (3, { act := .load 2 0 0 [] }), (5, { sp := some (.bool true) }), (7, { act := .load 1 0 0 [] }), (9, { act := .load 2 0 0 [] })] [2, 3, 5] [1, 2] (fun _ => [(fr1 0).x = (fr1 0).x, (fr1 1).x = (fr1 1).x, ((.bool (a0.Epoch == a1.Epoch)) : Value) = .bool true, (fr1 0).x = (fr1 0).x, (fr1 1).x = (fr1 1).x]) (fun _ => by kernel_rfl) (fun _ => ⟨rfl, rfl, bool_eq h5, rfl, rfl, trivial⟩)) ?_
        intro _
        refine GS.rekey (env' := [(2, .pointer (some ⟨(fr1 0).x, 0, none⟩)), (3, .pointer (some ⟨(fr1 1).x, 0, none⟩)), (5, .bool (decide (a0.N < a1.N)))]) (mem' := [(1, .cells ((fr1 0).x) 26 [.int .i64 a0.Epoch, .int .i64 a0.N]), (2, .cells ((fr1 1).x) 26 [.int .i64 a1.Epoch, .int .i64 a1.N])]) [2, 3, 5] [(1, 1), (2, 2)] (by kernel_rfl) (by kernel_rfl) rfl ?_
        exact H10 (decide (a0.N < a1.N)) hm
      · skip
        refine GS.region (env' := fun _ => [(2, .pointer (some ⟨(fr1 0).x, 0, none⟩)), (3, .pointer (some ⟨(fr1 1).x, 0, none⟩)), (5, .bool false)]) (mem' := fun _ => [(1, .cells ((fr1 0).x) 26 [.int .i64 a0.Epoch, .int .i64 a0.N]), (2, .cells ((fr1 1).x) 26 [.int .i64 a1.Epoch, .int .i64 a1.N])]) (RunsTo.mk [(1, { act := .load 1 0 0 [] }), (3, { act := .load 2 0 0 [] }), (5, { sp := some (.bool false) })] [2, 3, 5] [1, 2] (fun _ => [(fr1 0).x = (fr1 0).x, (fr1 1).x = (fr1 1).x, ((.bool (a0.Epoch == a1.Epoch)) : Value) = .bool false]) (fun _ => by kernel_rfl) (fun _ => ⟨rfl, rfl, bool_eq h5, trivial⟩)) ?_
        intro _
        refine GS.rekey (env' := [(2, .pointer (some ⟨(fr1 0).x, 0, none⟩)), (3, .pointer (some ⟨(fr1 1).x, 0, none⟩)), (5, .bool false)]) (mem' := [(1, .cells ((fr1 0).x) 26 [.int .i64 a0.Epoch, .int .i64 a0.N]), (2, .cells ((fr1 1).x) 26 [.int .i64 a1.Epoch, .int .i64 a1.N])]) [2, 3, 5] [(1, 1), (2, 2)] (by kernel_rfl) (by kernel_rfl) rfl ?_
        exact H10 false hm
  · rintro v5_2 hm
    replace hm := (hJ11 _).symm.trans hm
    try dsimp only at hm
    refine GS.cond (t := v5_2) rfl rfl (fun h12 => ?_) (fun h12 => ?_)
    · replace hm := br_t h12 hm
      refine GS.seq ?_
      refine GS.region (env' := fun _ => [(4, .int .i64 (-1))]) (mem' := fun _ => []) (RunsTo.mk [] [4] [] (fun _ => []) (fun _ => by kernel_rfl) (fun _ => trivial)) ?_
      intro _
      have hy := Option.some.inj hm
      subst hy
      refine GS.ret (fn := Try.f40) [0] [.int .i64 (-1)] [] rfl Try.func40 (by kernel_rfl) trivial (fun w' hs => ?_)
      exact ⟨(), rfl, hs.turnedG (ks := []) rfl rfl⟩
    · replace hm := br_f h12 hm
      refine GS.seq ?_
      refine GS.region (env' := fun _ => [(23, .bool (S_api_Version.beq a0 a1))]) (mem' := fun _ => []) (RunsTo.mk [(0, { act := .load 1 0 0 [] }), (1, { act := .load 2 0 0 [] }), (2, { act := .eq })] [23] [] (fun _ => [(fr1 0).x = (fr1 0).x, (fr1 1).x = (fr1 1).x]) (fun _ => by kernel_rfl) (fun _ => ⟨rfl, rfl, trivial⟩)) ?_
      intro _
      refine GS.cond (t := S_api_Version.beq a0 a1) rfl rfl (fun h15 => ?_) (fun h15 => ?_)
      · replace hm := br_t h15 hm
        refine GS.seq ?_
        refine GS.region (env' := fun _ => [(4, .int .i64 0)]) (mem' := fun _ => []) (RunsTo.mk [] [4] [] (fun _ => []) (fun _ => by kernel_rfl) (fun _ => trivial)) ?_
        intro _
        have hy := Option.some.inj hm
        subst hy
        refine GS.ret (fn := Try.f40) [0] [.int .i64 0] [] rfl Try.func40 (by kernel_rfl) trivial (fun w' hs => ?_)
        exact ⟨(), rfl, hs.turnedG (ks := []) rfl rfl⟩
      · replace hm := br_f h15 hm
        refine GS.skip ?_
        refine GS.inBlock ?_
        refine GS.seq ?_
        refine GS.region (env' := fun _ => [(4, .int .i64 1)]) (mem' := fun _ => []) (RunsTo.mk [] [4] [] (fun _ => []) (fun _ => by kernel_rfl) (fun _ => trivial)) ?_
        intro _
        have hy := Option.some.inj hm
        subst hy
        refine GS.ret (fn := Try.f40) [0] [.int .i64 1] [] rfl Try.func40 (by kernel_rfl) trivial (fun w' hs => ?_)
        exact ⟨(), rfl, hs.turnedG (ks := []) rfl rfl⟩

theorem w_tholeref09_Good (F : Nat) (a0 : ByteArray) {y : Bool} (hm : m_tholeref09_Good F a0 = some y) : CallG Try.prog 41 #[.string a0] (X := Unit) (fun (_ : Unit) => .bool y) [] [] (fun (_ : Unit) => []) := by
  intro w hg
  rw [m_tholeref09_Good] at hm
  refine GS.start (S := mayT [] []) (mem := []) Try.func41 rfl Try.ntmps41 (Nat.le_of_ble_eq_true rfl) (hg.start rfl) ?_
  refine GS.conv (env' := [(0, .string a0)]) rfl rfl ?_
  refine GS.seq ?_
  refine GS.region (env' := fun _ => [(0, .string a0)]) (mem' := fun _ => []) (RunsTo.mk [] [0] [] (fun _ => []) (fun _ => by kernel_rfl) (fun _ => trivial)) ?_
  intro _
  refine GS.seq ?_
  refine GS.seq ?_
  refine GS.region (env' := fun _ => [(0, .string a0), (3, .int .i64 0)]) (mem' := fun _ => []) (RunsTo.mk [] [0, 3] [] (fun _ => []) (fun _ => by kernel_rfl) (fun _ => trivial)) ?_
  intro _
  refine GS.block ?_
  refine GS.loop ?_
  refine grd_elim hm (fun g27 hm => ?_)
  refine GS.rekey (env' := [(0, .string a0), (3, .int .i64 0)]) (mem' := []) [0, 3] [] (by kernel_rfl) (by kernel_rfl) rfl ?_
  refine loopC_elim hm (fun st44 fn45 hst46 hfn47 hm => ?_)
  refine GS.loopInv (ι := Nat × Nat) (I := fun ⟨rs42, v3_1⟩ => ((((a0.size : Nat) : Int)) - ((v3_1 : Nat) : Int) : Int).toNat = rs42 ∧ loopC st44 fn45 rs42 v3_1 () = some y) (μ := fun ⟨rs42, v3_1⟩ => rs42) (E := fun ⟨rs42, v3_1⟩ => [(0, .string a0), (3, .int .i64 ((v3_1 : Nat) : Int))]) (M := fun ⟨rs42, v3_1⟩ => []) ?_ ⟨(Int.toNat (((a0.size : Nat) : Int) - ((0 : Nat) : Int))), 0⟩ ⟨rfl, hm⟩
  rintro ⟨rs42, v3_1⟩ ⟨hd26, hm⟩ ih43
  cases rs42 with
  | zero =>
    replace hm := (hfn47 _ _).symm.trans hm
    try dsimp only at hm
    refine GS.seq ?_
    refine GS.seq ?_
    refine GS.region (env' := fun _ => [(0, .string a0), (3, .int .i64 ((v3_1 : Nat) : Int)), (7, .bool (decide (((v3_1 : Nat) : Int) < ((a0.size : Nat) : Int))))]) (mem' := fun _ => []) (RunsTo.mk [] [0, 3, 7] [] (fun _ => []) (fun _ => by kernel_rfl) (fun _ => trivial)) ?_
    intro _
    refine GS.cond (t := decide (((v3_1 : Nat) : Int) < ((a0.size : Nat) : Int))) rfl rfl (fun h40 => absb h40 (cnt0 hd26)) (fun _ => ?_)
    refine GS.exit rfl ?_
    refine GS.seq ?_
    refine br_elim hm (fun h49 hm => ?_) (fun h49 hm => ?_)
    · skip
      refine GS.region (env' := fun _ => [(2, .bool (decide (((a0.size : Nat) : Int) ≤ 64)))]) (mem' := fun _ => []) (RunsTo.mk [(3, { sp := some (.bool true) })] [2] [] (fun _ => [((.bool (decide (((a0.size : Nat) : Int) ≥ 1))) : Value) = .bool true]) (fun _ => by kernel_rfl) (fun _ => ⟨bool_eq h49, trivial⟩)) ?_
      intro _
      have hy := Option.some.inj hm
      subst hy
      refine GS.ret (fn := Try.f41) [0] [.bool (decide (((a0.size : Nat) : Int) ≤ 64))] [] rfl Try.func41 (by kernel_rfl) trivial (fun w' hs => ?_)
      exact ⟨(), rfl, hs.turnedG (ks := []) rfl rfl⟩
    · skip
      refine GS.region (env' := fun _ => [(2, .bool false)]) (mem' := fun _ => []) (RunsTo.mk [(3, { sp := some (.bool false) })] [2] [] (fun _ => [((.bool (decide (((a0.size : Nat) : Int) ≥ 1))) : Value) = .bool false]) (fun _ => by kernel_rfl) (fun _ => ⟨bool_eq h49, trivial⟩)) ?_
      intro _
      have hy := Option.some.inj hm
      subst hy
      refine GS.ret (fn := Try.f41) [0] [.bool false] [] rfl Try.func41 (by kernel_rfl) trivial (fun w' hs => ?_)
      exact ⟨(), rfl, hs.turnedG (ks := []) rfl rfl⟩
  | succ rs42 =>
    replace hm := (hst46 _ _ _).symm.trans hm
    try dsimp only at hm
    refine GS.seq ?_
    refine GS.seq ?_
    refine GS.region (env' := fun _ => [(0, .string a0), (3, .int .i64 ((v3_1 : Nat) : Int)), (7, .bool (decide (((v3_1 : Nat) : Int) < ((a0.size : Nat) : Int))))]) (mem' := fun _ => []) (RunsTo.mk [] [0, 3, 7] [] (fun _ => []) (fun _ => by kernel_rfl) (fun _ => trivial)) ?_
    intro _
    refine GS.cond (t := decide (((v3_1 : Nat) : Int) < ((a0.size : Nat) : Int))) rfl rfl (fun _ => ?_) (fun h29 => absb (cnt1 hd26) h29)
    refine GS.skip ?_
    refine GS.seq ?_
    refine GS.block ?_
    refine GS.seq ?_
    refine jn_elim hm (fun J33 hJ35 hm => ?_)
    refine GS.cut (ι := Bool) (I := fun (v19_4 : Bool) => J33 v19_4 = some y) (E := fun (v19_4 : Bool) => [(0, .string a0), (3, .int .i64 ((v3_1 : Nat) : Int)), (19, .bool v19_4)]) (M := fun (v19_4 : Bool) => []) ?_ ?_
    rotate_left
    · intro H34
      refine grd_elim hm (fun g31 hm => ?_)
      refine br_elim hm (fun h32 hm => ?_) (fun h32 hm => ?_)
      · skip
        refine GS.region (env' := fun _ => [(0, .string a0), (3, .int .i64 ((v3_1 : Nat) : Int)), (19, .bool true)]) (mem' := fun _ => []) (RunsTo.mk [(2, { act := .elt v3_1 }), (4, { sp := some (.bool true) })] [0, 3, 19] [] (fun _ => [(((v3_1 : Nat) : Int) : Int) = ((v3_1 : Nat) : Int), v3_1 < a0.size, ((.bool (decide ((((a0.data.getD v3_1 0).toNat : Nat) : Int) < 33))) : Value) = .bool true]) (fun _ => by kernel_rfl) (fun _ => ⟨rfl, g31, bool_eq h32, trivial⟩)) ?_
        intro _
        refine GS.rekey (env' := [(0, .string a0), (3, .int .i64 ((v3_1 : Nat) : Int)), (19, .bool true)]) (mem' := []) [0, 3, 19] [] (by kernel_rfl) (by kernel_rfl) rfl ?_
        exact H34 true hm
      · skip
        refine GS.region (env' := fun _ => [(0, .string a0), (3, .int .i64 ((v3_1 : Nat) : Int)), (19, .bool (decide ((((a0.data.getD v3_1 0).toNat : Nat) : Int) > 126)))]) (mem' := fun _ => []) (RunsTo.mk [(2, { act := .elt v3_1 }), (4, { sp := some (.bool false) }), (7, { act := .elt v3_1 })] [0, 3, 19] [] (fun _ => [(((v3_1 : Nat) : Int) : Int) = ((v3_1 : Nat) : Int), v3_1 < a0.size, ((.bool (decide ((((a0.data.getD v3_1 0).toNat : Nat) : Int) < 33))) : Value) = .bool false, (((v3_1 : Nat) : Int) : Int) = ((v3_1 : Nat) : Int), v3_1 < a0.size]) (fun _ => by kernel_rfl) (fun _ => ⟨rfl, g31, bool_eq h32, rfl, g31, trivial⟩)) ?_
        intro _
        refine GS.rekey (env' := [(0, .string a0), (3, .int .i64 ((v3_1 : Nat) : Int)), (19, .bool (decide ((((a0.data.getD v3_1 0).toNat : Nat) : Int) > 126)))]) (mem' := []) [0, 3, 19] [] (by kernel_rfl) (by kernel_rfl) rfl ?_
        exact H34 (decide ((((a0.data.getD v3_1 0).toNat : Nat) : Int) > 126)) hm
    · rintro v19_4 hm
      replace hm := (hJ35 _).symm.trans hm
      try dsimp only at hm
      refine GS.cond (t := v19_4) rfl rfl (fun h36 => ?_) (fun h36 => ?_)
      · replace hm := br_t h36 hm
        refine GS.seq ?_
        refine GS.region (env' := fun _ => [(2, .bool false)]) (mem' := fun _ => []) (RunsTo.mk [] [2] [] (fun _ => []) (fun _ => by kernel_rfl) (fun _ => trivial)) ?_
        intro _
        have hy := Option.some.inj hm
        subst hy
        refine GS.ret (fn := Try.f41) [0] [.bool false] [] rfl Try.func41 (by kernel_rfl) trivial (fun w' hs => ?_)
        exact ⟨(), rfl, hs.turnedG (ks := []) rfl rfl⟩
      · replace hm := br_f h36 hm
        refine GS.skip ?_
        refine GS.inBlock ?_
        refine GS.region (env' := fun _ => [(0, .string a0), (3, .int .i64 ((v3_1 + 1 : Nat) : Int))]) (mem' := fun _ => []) (RunsTo.mk [(1, { sp := some (.int .i64 ((v3_1 + 1 : Nat) : Int)) })] [0, 3] [] (fun _ => [((.int .i64 (IntKind.i64.wrap (((v3_1 : Nat) : Int) + 1))) : Value) = .int .i64 ((v3_1 + 1 : Nat) : Int)]) (fun _ => by kernel_rfl) (fun _ => ⟨natwB (cnt1 hd26) g27, trivial⟩)) ?_
        intro _
        refine GS.inLoop ?_
        refine GS.rekey (env' := [(0, .string a0), (3, .int .i64 ((v3_1 + 1 : Nat) : Int))]) (mem' := []) [0, 3] [] (by kernel_rfl) (by kernel_rfl) rfl ?_
        exact ih43 ⟨rs42, v3_1 + 1⟩ ⟨cntN hd26, hm⟩ (Nat.lt_succ_self _)

theorem w_tholeref13_Find (F : Nat) (a0_Les : Int) (a0_Tail : S_api_Version) (a0_Log_o : Option Addr) (a0_Log_c : Nat) (a0_Log : List S_api_Entry) (a0_Lasts_o : Option Addr) (a0_Lasts_c : Nat) (a0_Lasts : List S_api_Last) (a0_Items_o : Option Addr) (a0_Items_c : Nat) (a0_Items : List S_api_Item) (a1 : ByteArray) {y : S_api_Item × Bool} (hm : m_tholeref13_Find F a0_Les a0_Tail a0_Log a0_Lasts a0_Items a1 = some y) : CallG Try.prog 27 #[.agg #[.int .i64 a0_Les, .int .i64 a0_Tail.Epoch, .int .i64 a0_Tail.N, .slice a0_Log_o a0_Log.length a0_Log_c, .slice a0_Lasts_o a0_Lasts.length a0_Lasts_c, .slice a0_Items_o a0_Items.length a0_Items_c], .string a1] (X := Unit) (fun (_ : Unit) => .tuple #[.agg #[.string y.1.Name, .int .i64 y.1.Version.Epoch, .int .i64 y.1.Version.N, .int .u32 y.1.Crc], .bool y.2]) [] [r58 a0_Log_o a0_Log, r78 a0_Lasts_o a0_Lasts, r48 a0_Items_o a0_Items] (fun (_ : Unit) => []) := by
  intro w hg
  rw [m_tholeref13_Find] at hm
  refine GS.start (S := mayT [] [r58 a0_Log_o a0_Log, r78 a0_Lasts_o a0_Lasts, r48 a0_Items_o a0_Items]) (mem := [(1, r58 a0_Log_o a0_Log), (2, r78 a0_Lasts_o a0_Lasts), (3, r48 a0_Items_o a0_Items)]) Try.func27 rfl Try.ntmps27 (Nat.le_of_ble_eq_true rfl) (hg.start rfl) ?_
  refine GS.conv (env' := [(0, .agg #[.int .i64 a0_Les, .int .i64 a0_Tail.Epoch, .int .i64 a0_Tail.N, .slice a0_Log_o a0_Log.length a0_Log_c, .slice a0_Lasts_o a0_Lasts.length a0_Lasts_c, .slice a0_Items_o a0_Items.length a0_Items_c]), (1, .string a1)]) rfl rfl ?_
  refine GS.seq ?_
  refine GS.region (env' := fun fr1 => [(1, .string a1), (2, .pointer (some ⟨(fr1 0).x, 0, none⟩)), (4, .pointer (some ⟨(fr1 1).x, 0, none⟩))]) (mem' := fun fr1 => [(1, r58 a0_Log_o a0_Log), (2, r78 a0_Lasts_o a0_Lasts), (3, r48 a0_Items_o a0_Items), (4, .cells ((fr1 0).x) 31 [.int .i64 a0_Les, .int .i64 a0_Tail.Epoch, .int .i64 a0_Tail.N, .slice a0_Log_o a0_Log.length a0_Log_c, .slice a0_Lasts_o a0_Lasts.length a0_Lasts_c, .slice a0_Items_o a0_Items.length a0_Items_c]), (5, .cells ((fr1 1).x) 48 [.string (ByteArray.mk #[]), .int .i64 0, .int .i64 0, .int .u32 0])]) (RunsTo.mk [(0, { act := .new .var, key := some 4 }), (1, { act := .new .var, key := some 5 })] [1, 2, 4] [1, 2, 3, 4, 5] (fun fr1 => []) (fun fr1 => by kernel_rfl) (fun fr1 => trivial)) ?_
  intro fr1
  refine GS.seq ?_
  refine GS.seq ?_
  refine GS.region (env' := fun _ => [(1, .string a1), (4, .pointer (some ⟨(fr1 1).x, 0, none⟩)), (9, .slice a0_Items_o a0_Items.length a0_Items_c), (10, .int .i64 ((a0_Items.length : Nat) : Int)), (11, .int .i64 0)]) (mem' := fun _ => [(3, r48 a0_Items_o a0_Items), (5, .cells ((fr1 1).x) 48 [.string (ByteArray.mk #[]), .int .i64 0, .int .i64 0, .int .u32 0])]) (RunsTo.mk [(1, { act := .load 4 0 0 [] })] [1, 4, 9, 10, 11] [3, 5] (fun _ => [(fr1 0).x = (fr1 0).x]) (fun _ => by kernel_rfl) (fun _ => ⟨rfl, trivial⟩)) ?_
  intro _
  refine GS.block ?_
  refine GS.loop ?_
  refine grd_elim hm (fun g21 hm => ?_)
  refine GS.rekey (env' := [(1, .string a1), (4, .pointer (some ⟨(fr1 1).x, 0, none⟩)), (9, .slice a0_Items_o a0_Items.length a0_Items_c), (10, .int .i64 ((a0_Items.length : Nat) : Int)), (11, .int .i64 0)]) (mem' := [(3, r48 a0_Items_o a0_Items), (5, .cells ((fr1 1).x) 48 [.string (ByteArray.mk #[]), .int .i64 0, .int .i64 0, .int .u32 0])]) [1, 4, 9, 10, 11] [(3, 3), (5, 5)] (by kernel_rfl) (by kernel_rfl) rfl ?_
  refine loopL_elim hm (fun st35 fn36 hst37 hfn38 hm => ?_)
  refine GS.loopInv (ι := List S_api_Item × Nat) (I := fun ⟨rs33, v11_1⟩ => a0_Items.drop v11_1 = rs33 ∧ loopL st35 fn36 rs33 v11_1 () = some y) (μ := fun ⟨rs33, v11_1⟩ => rs33.length) (E := fun ⟨rs33, v11_1⟩ => [(1, .string a1), (4, .pointer (some ⟨(fr1 1).x, 0, none⟩)), (9, .slice a0_Items_o a0_Items.length a0_Items_c), (10, .int .i64 ((a0_Items.length : Nat) : Int)), (11, .int .i64 ((v11_1 : Nat) : Int))]) (M := fun ⟨rs33, v11_1⟩ => [(3, r48 a0_Items_o a0_Items), (5, .cells ((fr1 1).x) 48 [.string (ByteArray.mk #[]), .int .i64 0, .int .i64 0, .int .u32 0])]) ?_ ⟨a0_Items, 0⟩ ⟨List.drop_zero .., hm⟩
  rintro ⟨rs33, v11_1⟩ ⟨hd20, hm⟩ ih34
  cases rs33 with
  | nil =>
    replace hm := (hfn38 _ _).symm.trans hm
    try dsimp only at hm
    refine GS.seq ?_
    refine GS.region (env' := fun _ => [(1, .string a1), (4, .pointer (some ⟨(fr1 1).x, 0, none⟩)), (9, .slice a0_Items_o a0_Items.length a0_Items_c), (10, .int .i64 ((a0_Items.length : Nat) : Int)), (11, .int .i64 ((v11_1 : Nat) : Int)), (12, .bool (decide (((v11_1 : Nat) : Int) < ((a0_Items.length : Nat) : Int))))]) (mem' := fun _ => [(3, r48 a0_Items_o a0_Items), (5, .cells ((fr1 1).x) 48 [.string (ByteArray.mk #[]), .int .i64 0, .int .i64 0, .int .u32 0])]) (RunsTo.mk [] [1, 4, 9, 10, 11, 12] [3, 5] (fun _ => []) (fun _ => by kernel_rfl) (fun _ => trivial)) ?_
    intro _
    refine GS.seq ?_
    refine GS.cond (t := decide (((v11_1 : Nat) : Int) < ((a0_Items.length : Nat) : Int))) rfl rfl (fun h31 => absb h31 (drop_dec0 hd20)) (fun _ => ?_)
    refine GS.exit rfl ?_
    refine GS.seq ?_
    refine GS.region (env' := fun _ => [(4, .pointer (some ⟨(fr1 1).x, 0, none⟩)), (5, .bool false)]) (mem' := fun _ => [(5, .cells ((fr1 1).x) 48 [.string (ByteArray.mk #[]), .int .i64 0, .int .i64 0, .int .u32 0])]) (RunsTo.mk [(1, { act := .store 0 0 [], key := some 5 })] [4, 5] [5] (fun _ => [(fr1 1).x = (fr1 1).x, ((.agg #[.string (ByteArray.mk #[]), .int .i64 0, .int .i64 0, .int .u32 0]) : Value).cells.toList.all Value.oneCell' = true]) (fun _ => by kernel_rfl) (fun _ => ⟨rfl, rfl, trivial⟩)) ?_
    intro _
    have hy := Option.some.inj hm
    subst hy
    refine GS.ret (fn := Try.f27) [5, 0] [.agg #[.string (ByteArray.mk #[]), .int .i64 0, .int .i64 0, .int .u32 0], .bool false] [(fr1 1).x = (fr1 1).x] rfl Try.func27 (by kernel_rfl) ⟨rfl, trivial⟩ (fun w' hs => ?_)
    exact ⟨(), rfl, hs.turnedG (ks := []) rfl rfl⟩
  | cons x22 rs33 =>
    replace hm := (hst37 _ _ _ _).symm.trans hm
    try dsimp only at hm
    refine GS.seq ?_
    refine GS.region (env' := fun _ => [(1, .string a1), (4, .pointer (some ⟨(fr1 1).x, 0, none⟩)), (9, .slice a0_Items_o a0_Items.length a0_Items_c), (10, .int .i64 ((a0_Items.length : Nat) : Int)), (11, .int .i64 ((v11_1 : Nat) : Int)), (12, .bool (decide (((v11_1 : Nat) : Int) < ((a0_Items.length : Nat) : Int))))]) (mem' := fun _ => [(3, r48 a0_Items_o a0_Items), (5, .cells ((fr1 1).x) 48 [.string (ByteArray.mk #[]), .int .i64 0, .int .i64 0, .int .u32 0])]) (RunsTo.mk [] [1, 4, 9, 10, 11, 12] [3, 5] (fun _ => []) (fun _ => by kernel_rfl) (fun _ => trivial)) ?_
    intro _
    refine GS.seq ?_
    refine GS.cond (t := decide (((v11_1 : Nat) : Int) < ((a0_Items.length : Nat) : Int))) rfl rfl (fun _ => ?_) (fun h24 => absb (drop_dec hd20) h24)
    refine GS.skip ?_
    refine GS.seq ?_
    refine GS.block ?_
    refine GS.seq ?_
    refine GS.region (env' := fun fr25 => [(1, .string a1), (4, .pointer (some ⟨(fr1 1).x, 0, none⟩)), (7, .pointer (some ⟨(fr25 2).x, 0, none⟩)), (9, .slice a0_Items_o a0_Items.length a0_Items_c), (10, .int .i64 ((a0_Items.length : Nat) : Int)), (11, .int .i64 ((v11_1 : Nat) : Int))]) (mem' := fun fr25 => [(3, r48 a0_Items_o a0_Items), (5, .cells ((fr1 1).x) 48 [.string (ByteArray.mk #[]), .int .i64 0, .int .i64 0, .int .u32 0]), (6, .cells ((fr25 2).x) 48 [.string x22.Name, .int .i64 x22.Version.Epoch, .int .i64 x22.Version.N, .int .u32 x22.Crc])]) (RunsTo.mk [(0, { act := .idx 3 v11_1 }), (1, { act := .load 3 v11_1 0 [.string x22.Name, .int .i64 x22.Version.Epoch, .int .i64 x22.Version.N, .int .u32 x22.Crc] }), (2, { act := .new .var, key := some 6 }), (3, { act := .store 0 0 [], key := some 6 })] [1, 4, 7, 9, 10, 11] [3, 5, 6] (fun fr25 => [a0_Items_o = a0_Items_o, a0_Items.length = (List.map S_api_Item.row a0_Items).length, (((v11_1 : Nat) : Int) : Int) = ((v11_1 : Nat) : Int), v11_1 < a0_Items.length, blk a0_Items_o = blk a0_Items_o, offs a0_Items_o + v11_1 * 4 = offs a0_Items_o + (v11_1 * 4 + 0), (List.map S_api_Item.row a0_Items)[v11_1]? = some [.string x22.Name, .int .i64 x22.Version.Epoch, .int .i64 x22.Version.N, .int .u32 x22.Crc], (fr25 2).x = (fr25 2).x, ((.agg #[.string x22.Name, .int .i64 x22.Version.Epoch, .int .i64 x22.Version.N, .int .u32 x22.Crc]) : Value).cells.toList.all Value.oneCell' = true]) (fun fr25 => by kernel_rfl) (fun fr25 => ⟨rfl, mlen S_api_Item.row a0_Items, rfl, (drop_lt hd20), rfl, rfl, map_drop S_api_Item.row hd20, rfl, rfl, trivial⟩)) ?_
    intro fr25
    refine GS.seq ?_
    refine GS.region (env' := fun _ => [(1, .string a1), (4, .pointer (some ⟨(fr1 1).x, 0, none⟩)), (7, .pointer (some ⟨(fr25 2).x, 0, none⟩)), (9, .slice a0_Items_o a0_Items.length a0_Items_c), (10, .int .i64 ((a0_Items.length : Nat) : Int)), (11, .int .i64 ((v11_1 : Nat) : Int)), (18, .bool (x22.Name.toList == a1.toList))]) (mem' := fun _ => [(3, r48 a0_Items_o a0_Items), (5, .cells ((fr1 1).x) 48 [.string (ByteArray.mk #[]), .int .i64 0, .int .i64 0, .int .u32 0]), (6, .cells ((fr25 2).x) 48 [.string x22.Name, .int .i64 x22.Version.Epoch, .int .i64 x22.Version.N, .int .u32 x22.Crc])]) (RunsTo.mk [(1, { act := .load 6 0 0 [] })] [1, 4, 7, 9, 10, 11, 18] [3, 5, 6] (fun _ => [(fr25 2).x = (fr25 2).x]) (fun _ => by kernel_rfl) (fun _ => ⟨rfl, trivial⟩)) ?_
    intro _
    refine GS.cond (t := x22.Name.toList == a1.toList) rfl rfl (fun h27 => ?_) (fun h27 => ?_)
    · replace hm := br_t h27 hm
      refine GS.seq ?_
      refine GS.region (env' := fun _ => [(4, .pointer (some ⟨(fr1 1).x, 0, none⟩)), (5, .bool true)]) (mem' := fun _ => [(5, .cells ((fr1 1).x) 48 [.string x22.Name, .int .i64 x22.Version.Epoch, .int .i64 x22.Version.N, .int .u32 x22.Crc])]) (RunsTo.mk [(0, { act := .load 6 0 0 [] }), (1, { act := .store 0 0 [], key := some 5 })] [4, 5] [5] (fun _ => [(fr25 2).x = (fr25 2).x, (fr1 1).x = (fr1 1).x, ((.agg #[.string x22.Name, .int .i64 x22.Version.Epoch, .int .i64 x22.Version.N, .int .u32 x22.Crc]) : Value).cells.toList.all Value.oneCell' = true]) (fun _ => by kernel_rfl) (fun _ => ⟨rfl, rfl, rfl, trivial⟩)) ?_
      intro _
      have hy := Option.some.inj hm
      subst hy
      refine GS.ret (fn := Try.f27) [5, 0] [.agg #[.string x22.Name, .int .i64 x22.Version.Epoch, .int .i64 x22.Version.N, .int .u32 x22.Crc], .bool true] [(fr1 1).x = (fr1 1).x] rfl Try.func27 (by kernel_rfl) ⟨rfl, trivial⟩ (fun w' hs => ?_)
      exact ⟨(), rfl, hs.turnedG (ks := []) rfl rfl⟩
    · replace hm := br_f h27 hm
      refine GS.skip ?_
      refine GS.inBlock ?_
      refine GS.region (env' := fun _ => [(1, .string a1), (4, .pointer (some ⟨(fr1 1).x, 0, none⟩)), (9, .slice a0_Items_o a0_Items.length a0_Items_c), (10, .int .i64 ((a0_Items.length : Nat) : Int)), (11, .int .i64 ((v11_1 + 1 : Nat) : Int))]) (mem' := fun _ => [(3, r48 a0_Items_o a0_Items), (5, .cells ((fr1 1).x) 48 [.string (ByteArray.mk #[]), .int .i64 0, .int .i64 0, .int .u32 0])]) (RunsTo.mk [(0, { sp := some (.int .i64 ((v11_1 + 1 : Nat) : Int)) })] [1, 4, 9, 10, 11] [3, 5] (fun _ => [((.int .i64 (IntKind.i64.wrap (((v11_1 : Nat) : Int) + 1))) : Value) = .int .i64 ((v11_1 + 1 : Nat) : Int)]) (fun _ => by kernel_rfl) (fun _ => ⟨natw (drop_lt hd20) g21, trivial⟩)) ?_
      intro _
      refine GS.inLoop ?_
      refine GS.rekey (env' := [(1, .string a1), (4, .pointer (some ⟨(fr1 1).x, 0, none⟩)), (9, .slice a0_Items_o a0_Items.length a0_Items_c), (10, .int .i64 ((a0_Items.length : Nat) : Int)), (11, .int .i64 ((v11_1 + 1 : Nat) : Int))]) (mem' := [(3, r48 a0_Items_o a0_Items), (5, .cells ((fr1 1).x) 48 [.string (ByteArray.mk #[]), .int .i64 0, .int .i64 0, .int .u32 0])]) [1, 4, 9, 10, 11] [(3, 3), (5, 5)] (by kernel_rfl) (by kernel_rfl) rfl ?_
      exact ih34 ⟨rs33, v11_1 + 1⟩ ⟨drop_next hd20, hm⟩ (Nat.lt_succ_self _)

end Go.Proofs.Yticlccnajfjdeaa
