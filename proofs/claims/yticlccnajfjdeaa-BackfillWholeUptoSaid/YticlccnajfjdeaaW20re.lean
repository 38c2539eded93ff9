/-
  CHAPTER 20r: the functions do what their models say (5).
-/
import Derived.Test.YticlccnajfjdeaaM20r
import Derived.Test.YticlccnajfjdeaaW20ra
import Derived.Test.YticlccnajfjdeaaW20rc
import Derived.Test.YticlccnajfjdeaaW20rd
set_option linter.unusedVariables false
set_option linter.unusedSimpArgs false
set_option maxRecDepth 100000
namespace Go.Proofs.Yticlccnajfjdeaa
open Go Go.RowKit Sx

theorem w_tholelaw20_awake (F : Nat) {y : Bool} (hm : m_tholelaw20_awake F = some y) : CallG Try.prog 8 #[] (X := Unit) (fun (_ : Unit) => .bool y) [] [] (fun (_ : Unit) => []) := by
  intro w hg
  rw [m_tholelaw20_awake] at hm
  refine GS.start (S := mayT [] []) (mem := []) Try.func8 rfl Try.ntmps8 (Nat.le_of_ble_eq_true rfl) (hg.start rfl) ?_
  refine GS.conv (env' := []) rfl rfl ?_
  refine GS.seq ?_
  refine GS.region (env' := fun _ => []) (mem' := fun _ => []) (RunsTo.mk [] [] [] (fun _ => []) (fun _ => by kernel_rfl) (fun _ => trivial)) ?_
  intro _
  refine GS.seq ?_
  refine GS.region (env' := fun fr2 => [(1, .pointer (some ⟨(fr2 6).x, 0, none⟩))]) (mem' := fun fr2 => [(1, .osl (some (Addr.mk (fr2 4).x 0 none)) 2 48 4 ([[.string (ByteArray.mk #[97]), .int .i64 1, .int .i64 1, .int .u32 0], [.string (ByteArray.mk #[99]), .int .i64 1, .int .i64 2, .int .u32 0]] : List (List Value))), (2, .cells ((fr2 6).x) 31 [.int .i64 0, .int .i64 0, .int .i64 0, .slice none 0 0, .slice none 0 0, .slice (some (Addr.mk (fr2 4).x 0 none)) ([(S_api_Item.mk (ByteArray.mk #[97]) (S_api_Version.mk 1 1) 0), (S_api_Item.mk (ByteArray.mk #[99]) (S_api_Version.mk 1 2) 0)].length) 2])]) (RunsTo.mk [(4, { act := .new (.row 2 4), key := some 1, spf := some (fun f => .slice (some (Addr.mk f.x 0 none)) ([(S_api_Item.mk (ByteArray.mk #[97]) (S_api_Version.mk 1 1) 0), (S_api_Item.mk (ByteArray.mk #[99]) (S_api_Version.mk 1 2) 0)].length) 2) }), (6, { act := .new .var, key := some 2 }), (7, { act := .store 0 0 [], key := some 2 })] [1] [1, 2] (fun fr2 => [((.slice (some (Addr.mk (fr2 4).x 0 none)) 2 2) : Value) = .slice (some (Addr.mk (fr2 4).x 0 none)) ([(S_api_Item.mk (ByteArray.mk #[97]) (S_api_Version.mk 1 1) 0), (S_api_Item.mk (ByteArray.mk #[99]) (S_api_Version.mk 1 2) 0)].length) 2, (fr2 6).x = (fr2 6).x, ((.agg #[.int .i64 0, .int .i64 0, .int .i64 0, .slice none 0 0, .slice none 0 0, .slice (some (Addr.mk (fr2 4).x 0 none)) ([(S_api_Item.mk (ByteArray.mk #[97]) (S_api_Version.mk 1 1) 0), (S_api_Item.mk (ByteArray.mk #[99]) (S_api_Version.mk 1 2) 0)].length) 2]) : Value).cells.toList.all Value.oneCell' = true]) (fun fr2 => by kernel_rfl) (fun fr2 => ⟨rfl, rfl, rfl, trivial⟩)) ?_
  intro fr2
  refine GS.conv (mem' := [(1, o48 (some (Addr.mk (fr2 4).x 0 none)) 2 [(S_api_Item.mk (ByteArray.mk #[97]) (S_api_Version.mk 1 1) 0), (S_api_Item.mk (ByteArray.mk #[99]) (S_api_Version.mk 1 2) 0)]), (2, .cells ((fr2 6).x) 31 [.int .i64 0, .int .i64 0, .int .i64 0, .slice none 0 0, .slice none 0 0, .slice (some (Addr.mk (fr2 4).x 0 none)) ([(S_api_Item.mk (ByteArray.mk #[97]) (S_api_Version.mk 1 1) 0), (S_api_Item.mk (ByteArray.mk #[99]) (S_api_Version.mk 1 2) 0)].length) 2])]) rfl (congrArg (fun rr : List (List Value) => ([(1, .osl (some (Addr.mk (fr2 4).x 0 none)) 2 48 4 rr), (2, .cells ((fr2 6).x) 31 [.int .i64 0, .int .i64 0, .int .i64 0, .slice none 0 0, .slice none 0 0, .slice (some (Addr.mk (fr2 4).x 0 none)) ([(S_api_Item.mk (ByteArray.mk #[97]) (S_api_Version.mk 1 1) 0), (S_api_Item.mk (ByteArray.mk #[99]) (S_api_Version.mk 1 2) 0)].length) 2])] : List (Nat × Ent))) (show ([[.string (ByteArray.mk #[97]), .int .i64 1, .int .i64 1, .int .u32 0], [.string (ByteArray.mk #[99]), .int .i64 1, .int .i64 2, .int .u32 0]] : List (List Value)) = List.map S_api_Item.row [(S_api_Item.mk (ByteArray.mk #[97]) (S_api_Version.mk 1 1) 0), (S_api_Item.mk (ByteArray.mk #[99]) (S_api_Version.mk 1 2) 0)] from rfl)) ?_
  refine GS.seq ?_
  refine GS.region (env' := fun fr3 => [(1, .pointer (some ⟨(fr2 6).x, 0, none⟩)), (2, .pointer (some ⟨(fr3 6).x, 0, none⟩))]) (mem' := fun fr3 => [(1, o48 (some (Addr.mk (fr2 4).x 0 none)) 2 [(S_api_Item.mk (ByteArray.mk #[97]) (S_api_Version.mk 1 1) 0), (S_api_Item.mk (ByteArray.mk #[99]) (S_api_Version.mk 1 2) 0)]), (2, .cells ((fr2 6).x) 31 [.int .i64 0, .int .i64 0, .int .i64 0, .slice none 0 0, .slice none 0 0, .slice (some (Addr.mk (fr2 4).x 0 none)) ([(S_api_Item.mk (ByteArray.mk #[97]) (S_api_Version.mk 1 1) 0), (S_api_Item.mk (ByteArray.mk #[99]) (S_api_Version.mk 1 2) 0)].length) 2]), (3, .osl (some (Addr.mk (fr3 4).x 0 none)) 2 48 4 ([[.string (ByteArray.mk #[97]), .int .i64 2, .int .i64 1, .int .u32 0], [.string (ByteArray.mk #[98]), .int .i64 2, .int .i64 2, .int .u32 0]] : List (List Value))), (4, .cells ((fr3 6).x) 31 [.int .i64 0, .int .i64 0, .int .i64 0, .slice none 0 0, .slice none 0 0, .slice (some (Addr.mk (fr3 4).x 0 none)) ([(S_api_Item.mk (ByteArray.mk #[97]) (S_api_Version.mk 2 1) 0), (S_api_Item.mk (ByteArray.mk #[98]) (S_api_Version.mk 2 2) 0)].length) 2])]) (RunsTo.mk [(4, { act := .new (.row 2 4), key := some 3, spf := some (fun f => .slice (some (Addr.mk f.x 0 none)) ([(S_api_Item.mk (ByteArray.mk #[97]) (S_api_Version.mk 2 1) 0), (S_api_Item.mk (ByteArray.mk #[98]) (S_api_Version.mk 2 2) 0)].length) 2) }), (6, { act := .new .var, key := some 4 }), (7, { act := .store 0 0 [], key := some 4 })] [1, 2] [1, 2, 3, 4] (fun fr3 => [((.slice (some (Addr.mk (fr3 4).x 0 none)) 2 2) : Value) = .slice (some (Addr.mk (fr3 4).x 0 none)) ([(S_api_Item.mk (ByteArray.mk #[97]) (S_api_Version.mk 2 1) 0), (S_api_Item.mk (ByteArray.mk #[98]) (S_api_Version.mk 2 2) 0)].length) 2, (fr3 6).x = (fr3 6).x, ((.agg #[.int .i64 0, .int .i64 0, .int .i64 0, .slice none 0 0, .slice none 0 0, .slice (some (Addr.mk (fr3 4).x 0 none)) ([(S_api_Item.mk (ByteArray.mk #[97]) (S_api_Version.mk 2 1) 0), (S_api_Item.mk (ByteArray.mk #[98]) (S_api_Version.mk 2 2) 0)].length) 2]) : Value).cells.toList.all Value.oneCell' = true]) (fun fr3 => by kernel_rfl) (fun fr3 => ⟨rfl, rfl, rfl, trivial⟩)) ?_
  intro fr3
  refine GS.conv (mem' := [(1, o48 (some (Addr.mk (fr2 4).x 0 none)) 2 [(S_api_Item.mk (ByteArray.mk #[97]) (S_api_Version.mk 1 1) 0), (S_api_Item.mk (ByteArray.mk #[99]) (S_api_Version.mk 1 2) 0)]), (2, .cells ((fr2 6).x) 31 [.int .i64 0, .int .i64 0, .int .i64 0, .slice none 0 0, .slice none 0 0, .slice (some (Addr.mk (fr2 4).x 0 none)) ([(S_api_Item.mk (ByteArray.mk #[97]) (S_api_Version.mk 1 1) 0), (S_api_Item.mk (ByteArray.mk #[99]) (S_api_Version.mk 1 2) 0)].length) 2]), (3, o48 (some (Addr.mk (fr3 4).x 0 none)) 2 [(S_api_Item.mk (ByteArray.mk #[97]) (S_api_Version.mk 2 1) 0), (S_api_Item.mk (ByteArray.mk #[98]) (S_api_Version.mk 2 2) 0)]), (4, .cells ((fr3 6).x) 31 [.int .i64 0, .int .i64 0, .int .i64 0, .slice none 0 0, .slice none 0 0, .slice (some (Addr.mk (fr3 4).x 0 none)) ([(S_api_Item.mk (ByteArray.mk #[97]) (S_api_Version.mk 2 1) 0), (S_api_Item.mk (ByteArray.mk #[98]) (S_api_Version.mk 2 2) 0)].length) 2])]) rfl (congrArg (fun rr : List (List Value) => ([(1, o48 (some (Addr.mk (fr2 4).x 0 none)) 2 [(S_api_Item.mk (ByteArray.mk #[97]) (S_api_Version.mk 1 1) 0), (S_api_Item.mk (ByteArray.mk #[99]) (S_api_Version.mk 1 2) 0)]), (2, .cells ((fr2 6).x) 31 [.int .i64 0, .int .i64 0, .int .i64 0, .slice none 0 0, .slice none 0 0, .slice (some (Addr.mk (fr2 4).x 0 none)) ([(S_api_Item.mk (ByteArray.mk #[97]) (S_api_Version.mk 1 1) 0), (S_api_Item.mk (ByteArray.mk #[99]) (S_api_Version.mk 1 2) 0)].length) 2]), (3, .osl (some (Addr.mk (fr3 4).x 0 none)) 2 48 4 rr), (4, .cells ((fr3 6).x) 31 [.int .i64 0, .int .i64 0, .int .i64 0, .slice none 0 0, .slice none 0 0, .slice (some (Addr.mk (fr3 4).x 0 none)) ([(S_api_Item.mk (ByteArray.mk #[97]) (S_api_Version.mk 2 1) 0), (S_api_Item.mk (ByteArray.mk #[98]) (S_api_Version.mk 2 2) 0)].length) 2])] : List (Nat × Ent))) (show ([[.string (ByteArray.mk #[97]), .int .i64 2, .int .i64 1, .int .u32 0], [.string (ByteArray.mk #[98]), .int .i64 2, .int .i64 2, .int .u32 0]] : List (List Value)) = List.map S_api_Item.row [(S_api_Item.mk (ByteArray.mk #[97]) (S_api_Version.mk 2 1) 0), (S_api_Item.mk (ByteArray.mk #[98]) (S_api_Version.mk 2 2) 0)] from rfl)) ?_
  refine GS.seq ?_
  refine bnd_elim hm (fun y5 e6 hm => ?_)
  refine GS.open_ ?_
  refine GR.run (i := 0) 2 (env' := fun _ => [(20, .agg #[.int .i64 0, .int .i64 0, .int .i64 0, .slice none 0 0, .slice none 0 0, .slice (some (Addr.mk (fr2 4).x 0 none)) ([(S_api_Item.mk (ByteArray.mk #[97]) (S_api_Version.mk 1 1) 0), (S_api_Item.mk (ByteArray.mk #[99]) (S_api_Version.mk 1 2) 0)].length) 2]), (21, .agg #[.int .i64 0, .int .i64 0, .int .i64 0, .slice none 0 0, .slice none 0 0, .slice (some (Addr.mk (fr3 4).x 0 none)) ([(S_api_Item.mk (ByteArray.mk #[97]) (S_api_Version.mk 2 1) 0), (S_api_Item.mk (ByteArray.mk #[98]) (S_api_Version.mk 2 2) 0)].length) 2])]) (mem' := fun _ => [(1, o48 (some (Addr.mk (fr2 4).x 0 none)) 2 [(S_api_Item.mk (ByteArray.mk #[97]) (S_api_Version.mk 1 1) 0), (S_api_Item.mk (ByteArray.mk #[99]) (S_api_Version.mk 1 2) 0)]), (3, o48 (some (Addr.mk (fr3 4).x 0 none)) 2 [(S_api_Item.mk (ByteArray.mk #[97]) (S_api_Version.mk 2 1) 0), (S_api_Item.mk (ByteArray.mk #[98]) (S_api_Version.mk 2 2) 0)])]) (Nat.le_of_ble_eq_true (by kernel_rfl)) (RunsTo.mk [(0, { act := .load 2 0 0 [] }), (1, { act := .load 4 0 0 [] })] [20, 21] [1, 3] (fun _ => [(fr2 6).x = (fr2 6).x, (fr3 6).x = (fr3 6).x]) (fun _ => by kernel_rfl) (fun _ => ⟨rfl, rfl, trivial⟩)) ?_
  intro _
  refine GR.callG (X := Option Addr × Nat × Option Addr × Nat) (i := 2) (g := 11) (args := #[.agg #[.int .i64 0, .int .i64 0, .int .i64 0, .slice none 0 0, .slice none 0 0, .slice (some (Addr.mk (fr2 4).x 0 none)) ([(S_api_Item.mk (ByteArray.mk #[97]) (S_api_Version.mk 1 1) 0), (S_api_Item.mk (ByteArray.mk #[99]) (S_api_Version.mk 1 2) 0)].length) 2], .agg #[.int .i64 0, .int .i64 0, .int .i64 0, .slice none 0 0, .slice none 0 0, .slice (some (Addr.mk (fr3 4).x 0 none)) ([(S_api_Item.mk (ByteArray.mk #[97]) (S_api_Version.mk 2 1) 0), (S_api_Item.mk (ByteArray.mk #[98]) (S_api_Version.mk 2 2) 0)].length) 2]]) (v := fun ⟨x7, x8, x9, x10⟩ => .tuple #[.slice x7 y5.1.length x8, .slice x9 y5.2.length x10]) (own := []) (ro := [r58 none ([] : List S_api_Entry), r78 none ([] : List S_api_Last), r48 (some (Addr.mk (fr2 4).x 0 none)) [(S_api_Item.mk (ByteArray.mk #[97]) (S_api_Version.mk 1 1) 0), (S_api_Item.mk (ByteArray.mk #[99]) (S_api_Version.mk 1 2) 0)], r58 none ([] : List S_api_Entry), r78 none ([] : List S_api_Last), r48 (some (Addr.mk (fr3 4).x 0 none)) [(S_api_Item.mk (ByteArray.mk #[97]) (S_api_Version.mk 2 1) 0), (S_api_Item.mk (ByteArray.mk #[98]) (S_api_Version.mk 2 2) 0)]]) (es' := fun ⟨x7, x8, x9, x10⟩ => [o48 x7 x8 y5.1, o9 x9 x10 y5.2]) (mem' := fun ⟨x7, x8, x9, x10⟩ => [(1, o48 (some (Addr.mk (fr2 4).x 0 none)) 2 [(S_api_Item.mk (ByteArray.mk #[97]) (S_api_Version.mk 1 1) 0), (S_api_Item.mk (ByteArray.mk #[99]) (S_api_Version.mk 1 2) 0)]), (3, o48 (some (Addr.mk (fr3 4).x 0 none)) 2 [(S_api_Item.mk (ByteArray.mk #[97]) (S_api_Version.mk 2 1) 0), (S_api_Item.mk (ByteArray.mk #[98]) (S_api_Version.mk 2 2) 0)]), (5, o48 x7 x8 y5.1), (6, o9 x9 x10 y5.2)]) (env' := fun ⟨x7, x8, x9, x10⟩ => [(22, .tuple #[.slice x7 y5.1.length x8, .slice x9 y5.2.length x10])]) [] [5, 6] [22] [1, 3, 5, 6] false (by kernel_rfl) (by kernel_rfl) (by kernel_rfl) (by kernel_rfl) (by kernel_rfl) (fun _ => rfl) (fun _ _ => rfl) ⟨(.inr NilE.rd), (.inr NilE.rd), (.inl ⟨1, _, rfl, rfl, Cov.osl_rd, fun h => by cases h⟩), (.inr NilE.rd), (.inr NilE.rd), (.inl ⟨3, _, rfl, rfl, Cov.osl_rd, fun h => by cases h⟩), trivial⟩ (by rintro ⟨x7, x8, x9, x10⟩; kernel_rfl) (by rintro ⟨x7, x8, x9, x10⟩; kernel_rfl) (w_backfill_Plan F 0 (S_api_Version.mk 0 0) none 0 ([] : List S_api_Entry) none 0 ([] : List S_api_Last) (some (Addr.mk (fr2 4).x 0 none)) 2 [(S_api_Item.mk (ByteArray.mk #[97]) (S_api_Version.mk 1 1) 0), (S_api_Item.mk (ByteArray.mk #[99]) (S_api_Version.mk 1 2) 0)] 0 (S_api_Version.mk 0 0) none 0 ([] : List S_api_Entry) none 0 ([] : List S_api_Last) (some (Addr.mk (fr3 4).x 0 none)) 2 [(S_api_Item.mk (ByteArray.mk #[97]) (S_api_Version.mk 2 1) 0), (S_api_Item.mk (ByteArray.mk #[98]) (S_api_Version.mk 2 2) 0)] e6) ?_
  rintro ⟨x7, x8, x9, x10⟩
  refine GR.run (i := 3) 5 (env' := fun _ => [(3, .slice x7 y5.1.length x8), (4, .slice x9 y5.2.length x10)]) (mem' := fun _ => [(5, o48 x7 x8 y5.1), (6, o9 x9 x10 y5.2)]) (Nat.le_of_ble_eq_true (by kernel_rfl)) (RunsTo.mk [] [3, 4] [5, 6] (fun _ => []) (fun _ => by kernel_rfl) (fun _ => trivial)) ?_
  intro _
  refine GR.done (Nat.le_of_ble_eq_true (by kernel_rfl)) ?_
  refine GS.seq ?_
  refine bnd_elim hm (fun y13 e14 hm => ?_)
  refine GS.open_ ?_
  refine GR.run (i := 0) 1 (env' := fun _ => [(3, .slice x7 y5.1.length x8), (4, .slice x9 y5.2.length x10), (26, .slice x7 y5.1.length x8)]) (mem' := fun _ => [(5, o48 x7 x8 y5.1), (6, o9 x9 x10 y5.2)]) (Nat.le_of_ble_eq_true (by kernel_rfl)) (RunsTo.mk [] [3, 4, 26] [5, 6] (fun _ => []) (fun _ => by kernel_rfl) (fun _ => trivial)) ?_
  intro _
  refine GR.callG (X := Option Addr × Nat) (i := 1) (g := 14) (args := #[.slice x7 y5.1.length x8, .string (ByteArray.mk #[]), .int .i64 1]) (v := fun ⟨x15, x16⟩ => .tuple #[.slice x15 y13.1.length x16, .bool y13.2]) (own := []) (ro := [r48 x7 y5.1]) (es' := fun ⟨x15, x16⟩ => [o48 x15 x16 y13.1]) (mem' := fun ⟨x15, x16⟩ => [(5, o48 x7 x8 y5.1), (6, o9 x9 x10 y5.2), (7, o48 x15 x16 y13.1)]) (env' := fun ⟨x15, x16⟩ => [(3, .slice x7 y5.1.length x8), (4, .slice x9 y5.2.length x10), (27, .tuple #[.slice x15 y13.1.length x16, .bool y13.2])]) [] [7] [3, 4, 27] [5, 6, 7] false (by kernel_rfl) (by kernel_rfl) (by kernel_rfl) (by kernel_rfl) (by kernel_rfl) (fun _ => rfl) (fun _ _ => rfl) ⟨(.inl ⟨5, _, rfl, rfl, Cov.osl_rd, fun h => by cases h⟩), trivial⟩ (by rintro ⟨x15, x16⟩; kernel_rfl) (by rintro ⟨x15, x16⟩; kernel_rfl) (w_backfill_Batch F x7 x8 y5.1 (ByteArray.mk #[]) 1 e14) ?_
  rintro ⟨x15, x16⟩
  refine GR.run (i := 2) 5 (env' := fun _ => [(3, .slice x7 y5.1.length x8), (4, .slice x9 y5.2.length x10), (5, .slice x15 y13.1.length x16), (6, .bool y13.2)]) (mem' := fun _ => [(5, o48 x7 x8 y5.1), (6, o9 x9 x10 y5.2), (7, o48 x15 x16 y13.1)]) (Nat.le_of_ble_eq_true (by kernel_rfl)) (RunsTo.mk [] [3, 4, 5, 6] [5, 6, 7] (fun _ => []) (fun _ => by kernel_rfl) (fun _ => trivial)) ?_
  intro _
  refine GR.done (Nat.le_of_ble_eq_true (by kernel_rfl)) ?_
  refine GS.seq ?_
  refine br_elim hm (fun h19 hm => ?_) (fun h19 hm => ?_)
  · skip
    refine br_elim hm (fun h20 hm => ?_) (fun h20 hm => ?_)
    · skip
      refine grd_elim hm (fun g21 hm => ?_)
      refine br_elim hm (fun h22 hm => ?_) (fun h22 hm => ?_)
      · skip
        refine br_elim hm (fun h23 hm => ?_) (fun h23 hm => ?_)
        · skip
          refine GS.region (env' := fun _ => [(0, .bool y13.2)]) (mem' := fun _ => []) (RunsTo.mk [(3, { sp := some (.bool true) }), (8, { sp := some (.bool true) }), (10, { act := .idx 6 0 }), (11, { act := .load 6 0 0 [.string (y5.2.getD 0 (ByteArray.mk #[]))] }), (14, { sp := some (.bool true) }), (19, { sp := some (.bool true) })] [0] [] (fun _ => [((.bool (((y5.1.length : Nat) : Int) == 2)) : Value) = .bool true, ((.bool (((y5.2.length : Nat) : Int) == 1)) : Value) = .bool true, x9 = x9, y5.2.length = (List.map rS y5.2).length, (0 : Int) = ((0 : Nat) : Int), 0 < y5.2.length, blk x9 = blk x9, offs x9 + 0 * 1 = offs x9 + (0 * 1 + 0), (List.map rS y5.2)[0]? = some [.string (y5.2.getD 0 (ByteArray.mk #[]))], ((.bool ((y5.2.getD 0 (ByteArray.mk #[])).toList == (ByteArray.mk #[99]).toList)) : Value) = .bool true, ((.bool (((y13.1.length : Nat) : Int) == 1)) : Value) = .bool true]) (fun _ => by kernel_rfl) (fun _ => ⟨bool_eq h19, bool_eq h20, rfl, mlen rS y5.2, rfl, g21, rfl, rfl, map_at rS (ByteArray.mk #[]) g21, bool_eq h22, bool_eq h23, trivial⟩)) ?_
          intro _
          have hy := Option.some.inj hm
          subst hy
          refine GS.ret (fn := Try.f8) [0] [.bool y13.2] [] rfl Try.func8 (by kernel_rfl) trivial (fun w' hs => ?_)
          exact ⟨(), rfl, hs.turnedG (ks := []) rfl rfl⟩
        · skip
          refine GS.region (env' := fun _ => [(0, .bool false)]) (mem' := fun _ => []) (RunsTo.mk [(3, { sp := some (.bool true) }), (8, { sp := some (.bool true) }), (10, { act := .idx 6 0 }), (11, { act := .load 6 0 0 [.string (y5.2.getD 0 (ByteArray.mk #[]))] }), (14, { sp := some (.bool true) }), (19, { sp := some (.bool false) })] [0] [] (fun _ => [((.bool (((y5.1.length : Nat) : Int) == 2)) : Value) = .bool true, ((.bool (((y5.2.length : Nat) : Int) == 1)) : Value) = .bool true, x9 = x9, y5.2.length = (List.map rS y5.2).length, (0 : Int) = ((0 : Nat) : Int), 0 < y5.2.length, blk x9 = blk x9, offs x9 + 0 * 1 = offs x9 + (0 * 1 + 0), (List.map rS y5.2)[0]? = some [.string (y5.2.getD 0 (ByteArray.mk #[]))], ((.bool ((y5.2.getD 0 (ByteArray.mk #[])).toList == (ByteArray.mk #[99]).toList)) : Value) = .bool true, ((.bool (((y13.1.length : Nat) : Int) == 1)) : Value) = .bool false]) (fun _ => by kernel_rfl) (fun _ => ⟨bool_eq h19, bool_eq h20, rfl, mlen rS y5.2, rfl, g21, rfl, rfl, map_at rS (ByteArray.mk #[]) g21, bool_eq h22, bool_eq h23, trivial⟩)) ?_
          intro _
          have hy := Option.some.inj hm
          subst hy
          refine GS.ret (fn := Try.f8) [0] [.bool false] [] rfl Try.func8 (by kernel_rfl) trivial (fun w' hs => ?_)
          exact ⟨(), rfl, hs.turnedG (ks := []) rfl rfl⟩
      · skip
        refine GS.region (env' := fun _ => [(0, .bool false)]) (mem' := fun _ => []) (RunsTo.mk [(3, { sp := some (.bool true) }), (8, { sp := some (.bool true) }), (10, { act := .idx 6 0 }), (11, { act := .load 6 0 0 [.string (y5.2.getD 0 (ByteArray.mk #[]))] }), (14, { sp := some (.bool false) })] [0] [] (fun _ => [((.bool (((y5.1.length : Nat) : Int) == 2)) : Value) = .bool true, ((.bool (((y5.2.length : Nat) : Int) == 1)) : Value) = .bool true, x9 = x9, y5.2.length = (List.map rS y5.2).length, (0 : Int) = ((0 : Nat) : Int), 0 < y5.2.length, blk x9 = blk x9, offs x9 + 0 * 1 = offs x9 + (0 * 1 + 0), (List.map rS y5.2)[0]? = some [.string (y5.2.getD 0 (ByteArray.mk #[]))], ((.bool ((y5.2.getD 0 (ByteArray.mk #[])).toList == (ByteArray.mk #[99]).toList)) : Value) = .bool false]) (fun _ => by kernel_rfl) (fun _ => ⟨bool_eq h19, bool_eq h20, rfl, mlen rS y5.2, rfl, g21, rfl, rfl, map_at rS (ByteArray.mk #[]) g21, bool_eq h22, trivial⟩)) ?_
        intro _
        have hy := Option.some.inj hm
        subst hy
        refine GS.ret (fn := Try.f8) [0] [.bool false] [] rfl Try.func8 (by kernel_rfl) trivial (fun w' hs => ?_)
        exact ⟨(), rfl, hs.turnedG (ks := []) rfl rfl⟩
    · skip
      refine GS.region (env' := fun _ => [(0, .bool false)]) (mem' := fun _ => []) (RunsTo.mk [(3, { sp := some (.bool true) }), (8, { sp := some (.bool false) })] [0] [] (fun _ => [((.bool (((y5.1.length : Nat) : Int) == 2)) : Value) = .bool true, ((.bool (((y5.2.length : Nat) : Int) == 1)) : Value) = .bool false]) (fun _ => by kernel_rfl) (fun _ => ⟨bool_eq h19, bool_eq h20, trivial⟩)) ?_
      intro _
      have hy := Option.some.inj hm
      subst hy
      refine GS.ret (fn := Try.f8) [0] [.bool false] [] rfl Try.func8 (by kernel_rfl) trivial (fun w' hs => ?_)
      exact ⟨(), rfl, hs.turnedG (ks := []) rfl rfl⟩
  · skip
    refine GS.region (env' := fun _ => [(0, .bool false)]) (mem' := fun _ => []) (RunsTo.mk [(3, { sp := some (.bool false) })] [0] [] (fun _ => [((.bool (((y5.1.length : Nat) : Int) == 2)) : Value) = .bool false]) (fun _ => by kernel_rfl) (fun _ => ⟨bool_eq h19, trivial⟩)) ?_
    intro _
    have hy := Option.some.inj hm
    subst hy
    refine GS.ret (fn := Try.f8) [0] [.bool false] [] rfl Try.func8 (by kernel_rfl) trivial (fun w' hs => ?_)
    exact ⟨(), rfl, hs.turnedG (ks := []) rfl rfl⟩

theorem w_tholelaw20_items (F : Nat) (a0_o : Option Addr) (a0_c : Nat) (a0 : List S_api_Item) (a1_o : Option Addr) (a1_c : Nat) (a1 : List S_api_Item) {y : Bool} (hm : m_tholelaw20_items F a0 a1 = some y) : CallG Try.prog 12 #[.slice a0_o a0.length a0_c, .slice a1_o a1.length a1_c] (X := Unit) (fun (_ : Unit) => .bool y) [] [r48 a0_o a0, r48 a1_o a1] (fun (_ : Unit) => []) := by
  intro w hg
  rw [m_tholelaw20_items] at hm
  refine GS.start (S := mayT [] [r48 a0_o a0, r48 a1_o a1]) (mem := [(1, r48 a0_o a0), (2, r48 a1_o a1)]) Try.func12 rfl Try.ntmps12 (Nat.le_of_ble_eq_true rfl) (hg.start rfl) ?_
  refine GS.conv (env' := [(0, .slice a0_o a0.length a0_c), (1, .slice a1_o a1.length a1_c)]) rfl rfl ?_
  refine GS.seq ?_
  refine GS.region (env' := fun _ => [(0, .slice a0_o a0.length a0_c), (1, .slice a1_o a1.length a1_c)]) (mem' := fun _ => [(1, r48 a0_o a0), (2, r48 a1_o a1)]) (RunsTo.mk [] [0, 1] [1, 2] (fun _ => []) (fun _ => by kernel_rfl) (fun _ => trivial)) ?_
  intro _
  refine GS.seq ?_
  refine GS.seq ?_
  refine GS.region (env' := fun _ => [(0, .slice a0_o a0.length a0_c), (1, .slice a1_o a1.length a1_c), (10, .bool (((a0.length : Nat) : Int) != ((a1.length : Nat) : Int)))]) (mem' := fun _ => [(1, r48 a0_o a0), (2, r48 a1_o a1)]) (RunsTo.mk [] [0, 1, 10] [1, 2] (fun _ => []) (fun _ => by kernel_rfl) (fun _ => trivial)) ?_
  intro _
  refine GS.cond (t := ((a0.length : Nat) : Int) != ((a1.length : Nat) : Int)) rfl rfl (fun h3 => ?_) (fun h3 => ?_)
  · replace hm := br_t h3 hm
    refine GS.seq ?_
    refine GS.region (env' := fun _ => [(4, .bool false)]) (mem' := fun _ => []) (RunsTo.mk [] [4] [] (fun _ => []) (fun _ => by kernel_rfl) (fun _ => trivial)) ?_
    intro _
    have hy := Option.some.inj hm
    subst hy
    refine GS.ret (fn := Try.f12) [0] [.bool false] [] rfl Try.func12 (by kernel_rfl) trivial (fun w' hs => ?_)
    exact ⟨(), rfl, hs.turnedG (ks := []) rfl rfl⟩
  · replace hm := br_f h3 hm
    refine GS.skip ?_
    refine GS.seq ?_
    refine GS.seq ?_
    refine GS.region (env' := fun _ => [(0, .slice a0_o a0.length a0_c), (1, .slice a1_o a1.length a1_c), (12, .int .i64 ((a0.length : Nat) : Int)), (13, .int .i64 0)]) (mem' := fun _ => [(1, r48 a0_o a0), (2, r48 a1_o a1)]) (RunsTo.mk [] [0, 1, 12, 13] [1, 2] (fun _ => []) (fun _ => by kernel_rfl) (fun _ => trivial)) ?_
    intro _
    refine GS.block ?_
    refine GS.loop ?_
    refine grd_elim hm (fun g26 hm => ?_)
    refine GS.rekey (env' := [(0, .slice a0_o a0.length a0_c), (1, .slice a1_o a1.length a1_c), (12, .int .i64 ((a0.length : Nat) : Int)), (13, .int .i64 0)]) (mem' := [(1, r48 a0_o a0), (2, r48 a1_o a1)]) [0, 1, 12, 13] [(1, 1), (2, 2)] (by kernel_rfl) (by kernel_rfl) rfl ?_
    refine loopL_elim hm (fun st41 fn42 hst43 hfn44 hm => ?_)
    refine GS.loopInv (ι := List S_api_Item × Nat) (I := fun ⟨rs39, v13_1⟩ => a0.drop v13_1 = rs39 ∧ loopL st41 fn42 rs39 v13_1 () = some y) (μ := fun ⟨rs39, v13_1⟩ => rs39.length) (E := fun ⟨rs39, v13_1⟩ => [(0, .slice a0_o a0.length a0_c), (1, .slice a1_o a1.length a1_c), (12, .int .i64 ((a0.length : Nat) : Int)), (13, .int .i64 ((v13_1 : Nat) : Int))]) (M := fun ⟨rs39, v13_1⟩ => [(1, r48 a0_o a0), (2, r48 a1_o a1)]) ?_ ⟨a0, 0⟩ ⟨List.drop_zero .., hm⟩
    rintro ⟨rs39, v13_1⟩ ⟨hd25, hm⟩ ih40
    cases rs39 with
    | nil =>
      replace hm := (hfn44 _ _).symm.trans hm
      try dsimp only at hm
      refine GS.seq ?_
      refine GS.region (env' := fun _ => [(0, .slice a0_o a0.length a0_c), (1, .slice a1_o a1.length a1_c), (12, .int .i64 ((a0.length : Nat) : Int)), (13, .int .i64 ((v13_1 : Nat) : Int)), (14, .bool (decide (((v13_1 : Nat) : Int) < ((a0.length : Nat) : Int))))]) (mem' := fun _ => [(1, r48 a0_o a0), (2, r48 a1_o a1)]) (RunsTo.mk [] [0, 1, 12, 13, 14] [1, 2] (fun _ => []) (fun _ => by kernel_rfl) (fun _ => trivial)) ?_
      intro _
      refine GS.seq ?_
      refine GS.cond (t := decide (((v13_1 : Nat) : Int) < ((a0.length : Nat) : Int))) rfl rfl (fun h37 => absb h37 (drop_dec0 hd25)) (fun _ => ?_)
      refine GS.exit rfl ?_
      refine GS.seq ?_
      refine GS.region (env' := fun _ => [(4, .bool true)]) (mem' := fun _ => []) (RunsTo.mk [] [4] [] (fun _ => []) (fun _ => by kernel_rfl) (fun _ => trivial)) ?_
      intro _
      have hy := Option.some.inj hm
      subst hy
      refine GS.ret (fn := Try.f12) [0] [.bool true] [] rfl Try.func12 (by kernel_rfl) trivial (fun w' hs => ?_)
      exact ⟨(), rfl, hs.turnedG (ks := []) rfl rfl⟩
    | cons x27 rs39 =>
      replace hm := (hst43 _ _ _ _).symm.trans hm
      try dsimp only at hm
      refine GS.seq ?_
      refine GS.region (env' := fun _ => [(0, .slice a0_o a0.length a0_c), (1, .slice a1_o a1.length a1_c), (12, .int .i64 ((a0.length : Nat) : Int)), (13, .int .i64 ((v13_1 : Nat) : Int)), (14, .bool (decide (((v13_1 : Nat) : Int) < ((a0.length : Nat) : Int))))]) (mem' := fun _ => [(1, r48 a0_o a0), (2, r48 a1_o a1)]) (RunsTo.mk [] [0, 1, 12, 13, 14] [1, 2] (fun _ => []) (fun _ => by kernel_rfl) (fun _ => trivial)) ?_
      intro _
      refine GS.seq ?_
      refine GS.cond (t := decide (((v13_1 : Nat) : Int) < ((a0.length : Nat) : Int))) rfl rfl (fun _ => ?_) (fun h29 => absb (drop_dec hd25) h29)
      refine GS.skip ?_
      refine GS.seq ?_
      refine GS.block ?_
      refine GS.seq ?_
      refine GS.region (env' := fun _ => [(0, .slice a0_o a0.length a0_c), (1, .slice a1_o a1.length a1_c), (5, .int .i64 ((v13_1 : Nat) : Int)), (12, .int .i64 ((a0.length : Nat) : Int)), (13, .int .i64 ((v13_1 : Nat) : Int))]) (mem' := fun _ => [(1, r48 a0_o a0), (2, r48 a1_o a1)]) (RunsTo.mk [] [0, 1, 5, 12, 13] [1, 2] (fun _ => []) (fun _ => by kernel_rfl) (fun _ => trivial)) ?_
      intro _
      refine GS.seq ?_
      refine grd_elim hm (fun g32 hm => ?_)
      refine GS.region (env' := fun _ => [(0, .slice a0_o a0.length a0_c), (1, .slice a1_o a1.length a1_c), (12, .int .i64 ((a0.length : Nat) : Int)), (13, .int .i64 ((v13_1 : Nat) : Int)), (24, .bool (!(S_api_Item.beq x27 (a1.getD v13_1 dS_api_Item))))]) (mem' := fun _ => [(1, r48 a0_o a0), (2, r48 a1_o a1)]) (RunsTo.mkd [(2, { act := .idx 1 v13_1 }), (3, { act := .load 1 v13_1 0 [.string x27.Name, .int .i64 x27.Version.Epoch, .int .i64 x27.Version.N, .int .u32 x27.Crc] }), (6, { act := .idx 2 v13_1 }), (7, { act := .load 2 v13_1 0 [.string ((a1.getD v13_1 dS_api_Item).Name), .int .i64 (((a1.getD v13_1 dS_api_Item).Version).Epoch), .int .i64 (((a1.getD v13_1 dS_api_Item).Version).N), .int .u32 ((a1.getD v13_1 dS_api_Item).Crc)] }), (8, { act := .eq })] [0, 1, 12, 13, 24] [1, 2] (fun _ => [a0_o = a0_o, a0.length = (List.map S_api_Item.row a0).length, (((v13_1 : Nat) : Int) : Int) = ((v13_1 : Nat) : Int), v13_1 < a0.length, blk a0_o = blk a0_o, offs a0_o + v13_1 * 4 = offs a0_o + (v13_1 * 4 + 0), (List.map S_api_Item.row a0)[v13_1]? = some [.string x27.Name, .int .i64 x27.Version.Epoch, .int .i64 x27.Version.N, .int .u32 x27.Crc], a1_o = a1_o, a1.length = (List.map S_api_Item.row a1).length, (((v13_1 : Nat) : Int) : Int) = ((v13_1 : Nat) : Int), v13_1 < a1.length, blk a1_o = blk a1_o, offs a1_o + v13_1 * 4 = offs a1_o + (v13_1 * 4 + 0), (List.map S_api_Item.row a1)[v13_1]? = some [.string ((a1.getD v13_1 dS_api_Item).Name), .int .i64 (((a1.getD v13_1 dS_api_Item).Version).Epoch), .int .i64 (((a1.getD v13_1 dS_api_Item).Version).N), .int .u32 ((a1.getD v13_1 dS_api_Item).Crc)]]) (by kernel_rfl) (by kernel_rfl) (fun _ => by kernel_rfl) (fun _ => ⟨rfl, mlen S_api_Item.row a0, rfl, (drop_lt hd25), rfl, rfl, map_drop S_api_Item.row hd25, rfl, mlen S_api_Item.row a1, rfl, g32, rfl, rfl, map_at S_api_Item.row dS_api_Item g32, trivial⟩)) ?_
      intro _
      refine GS.cond (t := !(S_api_Item.beq x27 (a1.getD v13_1 dS_api_Item))) rfl rfl (fun h33 => ?_) (fun h33 => ?_)
      · replace hm := br_t h33 hm
        refine GS.seq ?_
        refine GS.region (env' := fun _ => [(4, .bool false)]) (mem' := fun _ => []) (RunsTo.mk [] [4] [] (fun _ => []) (fun _ => by kernel_rfl) (fun _ => trivial)) ?_
        intro _
        have hy := Option.some.inj hm
        subst hy
        refine GS.ret (fn := Try.f12) [0] [.bool false] [] rfl Try.func12 (by kernel_rfl) trivial (fun w' hs => ?_)
        exact ⟨(), rfl, hs.turnedG (ks := []) rfl rfl⟩
      · replace hm := br_f h33 hm
        refine GS.skip ?_
        refine GS.inBlock ?_
        refine GS.region (env' := fun _ => [(0, .slice a0_o a0.length a0_c), (1, .slice a1_o a1.length a1_c), (12, .int .i64 ((a0.length : Nat) : Int)), (13, .int .i64 ((v13_1 + 1 : Nat) : Int))]) (mem' := fun _ => [(1, r48 a0_o a0), (2, r48 a1_o a1)]) (RunsTo.mk [(0, { sp := some (.int .i64 ((v13_1 + 1 : Nat) : Int)) })] [0, 1, 12, 13] [1, 2] (fun _ => [((.int .i64 (IntKind.i64.wrap (((v13_1 : Nat) : Int) + 1))) : Value) = .int .i64 ((v13_1 + 1 : Nat) : Int)]) (fun _ => by kernel_rfl) (fun _ => ⟨natw (drop_lt hd25) g26, trivial⟩)) ?_
        intro _
        refine GS.inLoop ?_
        refine GS.rekey (env' := [(0, .slice a0_o a0.length a0_c), (1, .slice a1_o a1.length a1_c), (12, .int .i64 ((a0.length : Nat) : Int)), (13, .int .i64 ((v13_1 + 1 : Nat) : Int))]) (mem' := [(1, r48 a0_o a0), (2, r48 a1_o a1)]) [0, 1, 12, 13] [(1, 1), (2, 2)] (by kernel_rfl) (by kernel_rfl) rfl ?_
        exact ih40 ⟨rs39, v13_1 + 1⟩ ⟨drop_next hd25, hm⟩ (Nat.lt_succ_self _)

theorem w_backfill_Batches (F : Nat) (a0_o : Option Addr) (a0_c : Nat) (a0 : List S_api_Item) (a1 : Int) {y : List S_api_Item × Int} (hm : m_backfill_Batches F a0 a1 = some y) : CallG Try.prog 16 #[.slice a0_o a0.length a0_c, .int .i64 a1] (X := Nat × Option Addr × Nat × Nat) (fun ⟨x0, x1, x2, x3⟩ => .func (.func 31) #[] #[.pointer (some ⟨x0, 0, none⟩), .pointer (some ⟨x3, 0, none⟩)]) [] [r48 a0_o a0] (fun ⟨x0, x1, x2, x3⟩ => [o48 x1 x2 y.1, .cells x0 29 [.slice x1 y.1.length x2], .cells x3 3 [.int .i64 y.2]]) := by
  intro w hg
  rw [m_backfill_Batches] at hm
  refine GS.start (S := mayT [] [r48 a0_o a0]) (mem := [(1, r48 a0_o a0)]) Try.func16 rfl Try.ntmps16 (Nat.le_of_ble_eq_true rfl) (hg.start rfl) ?_
  refine GS.conv (env' := [(0, .slice a0_o a0.length a0_c), (1, .int .i64 a1)]) rfl rfl ?_
  refine GS.seq ?_
  refine GS.region (env' := fun fr1 => [(2, .pointer (some ⟨(fr1 0).x, 0, none⟩)), (3, .pointer (some ⟨(fr1 1).x, 0, none⟩))]) (mem' := fun fr1 => [(1, r48 a0_o a0), (2, .cells ((fr1 0).x) 29 [.slice a0_o a0.length a0_c]), (3, .cells ((fr1 1).x) 3 [.int .i64 a1])]) (RunsTo.mk [(0, { act := .new .var, key := some 2 }), (1, { act := .new .var, key := some 3 })] [2, 3] [1, 2, 3] (fun fr1 => []) (fun fr1 => by kernel_rfl) (fun fr1 => trivial)) ?_
  intro fr1
  refine GS.seq ?_
  refine bnd_elim hm (fun y3 e4 hm => ?_)
  refine GS.open_ ?_
  refine GR.run (i := 0) 1 (env' := fun _ => [(2, .pointer (some ⟨(fr1 0).x, 0, none⟩)), (3, .pointer (some ⟨(fr1 1).x, 0, none⟩)), (5, .slice a0_o a0.length a0_c)]) (mem' := fun _ => [(1, r48 a0_o a0), (2, .cells ((fr1 0).x) 29 [.slice a0_o a0.length a0_c]), (3, .cells ((fr1 1).x) 3 [.int .i64 a1])]) (Nat.le_of_ble_eq_true (by kernel_rfl)) (RunsTo.mk [(0, { act := .load 2 0 0 [] })] [2, 3, 5] [1, 2, 3] (fun _ => [(fr1 0).x = (fr1 0).x]) (fun _ => by kernel_rfl) (fun _ => ⟨rfl, trivial⟩)) ?_
  intro _
  refine GR.callG (X := Option Addr × Nat) (i := 1) (g := 28) (args := #[.slice a0_o a0.length a0_c]) (v := fun ⟨x5, x6⟩ => .slice x5 y3.length x6) (own := []) (ro := [r48 a0_o a0]) (es' := fun ⟨x5, x6⟩ => [o48 x5 x6 y3]) (mem' := fun ⟨x5, x6⟩ => [(1, r48 a0_o a0), (2, .cells ((fr1 0).x) 29 [.slice a0_o a0.length a0_c]), (3, .cells ((fr1 1).x) 3 [.int .i64 a1]), (4, o48 x5 x6 y3)]) (env' := fun ⟨x5, x6⟩ => [(2, .pointer (some ⟨(fr1 0).x, 0, none⟩)), (3, .pointer (some ⟨(fr1 1).x, 0, none⟩)), (6, .slice x5 y3.length x6)]) [] [4] [2, 3, 6] [1, 2, 3, 4] false (by kernel_rfl) (by kernel_rfl) (by kernel_rfl) (by kernel_rfl) (by kernel_rfl) (fun _ => rfl) (fun _ _ => rfl) ⟨(.inl ⟨1, _, rfl, rfl, Cov.refl _, fun h => by cases h⟩), trivial⟩ (by rintro ⟨x5, x6⟩; kernel_rfl) (by rintro ⟨x5, x6⟩; kernel_rfl) (w_backfill_byName F a0_o a0_c a0 e4) ?_
  rintro ⟨x5, x6⟩
  refine GR.run (i := 2) 1 (env' := fun _ => [(2, .pointer (some ⟨(fr1 0).x, 0, none⟩)), (3, .pointer (some ⟨(fr1 1).x, 0, none⟩))]) (mem' := fun _ => [(2, .cells ((fr1 0).x) 29 [.slice x5 y3.length x6]), (3, .cells ((fr1 1).x) 3 [.int .i64 a1]), (4, o48 x5 x6 y3)]) (Nat.le_of_ble_eq_true (by kernel_rfl)) (RunsTo.mk [(2, { act := .store 0 0 [], key := some 2 })] [2, 3] [2, 3, 4] (fun _ => [(fr1 0).x = (fr1 0).x, ((.slice x5 y3.length x6) : Value).cells.toList.all Value.oneCell' = true]) (fun _ => by kernel_rfl) (fun _ => ⟨rfl, rfl, trivial⟩)) ?_
  intro _
  refine GR.done (Nat.le_of_ble_eq_true (by kernel_rfl)) ?_
  refine GS.seq ?_
  refine GS.region (env' := fun _ => [(4, .func (.func 31) #[] #[.pointer (some ⟨(fr1 0).x, 0, none⟩), .pointer (some ⟨(fr1 1).x, 0, none⟩)])]) (mem' := fun _ => [(2, .cells ((fr1 0).x) 29 [.slice x5 y3.length x6]), (3, .cells ((fr1 1).x) 3 [.int .i64 a1]), (4, o48 x5 x6 y3)]) (RunsTo.mk [] [4] [2, 3, 4] (fun _ => []) (fun _ => by kernel_rfl) (fun _ => trivial)) ?_
  intro _
  have hy := Option.some.inj hm
  subst hy
  refine GS.ret (fn := Try.f16) [0] [.func (.func 31) #[] #[.pointer (some ⟨(fr1 0).x, 0, none⟩), .pointer (some ⟨(fr1 1).x, 0, none⟩)]] [] rfl Try.func16 (by kernel_rfl) trivial (fun w' hs => ?_)
  exact ⟨⟨(fr1 0).x, x5, x6, (fr1 1).x⟩, rfl, hs.turnedG (ks := [4, 2, 3]) rfl rfl⟩

theorem w_backfill_Batches_1 (F : Nat) {Ty Ay : Type} (Jy : Ty → Ay → List Ent) (RLy : List Ent) (ly : Nat) (ky : Ty → List S_api_Item → Option (Bool × Ty)) (hyy : ∀ (s : Ty) (a : Ay) (py0_o : Option Addr) (py0_c : Nat) (py0 : List S_api_Item) (y : Bool × Ty), ky s py0 = some y → YieldG Try.prog ly #[.slice py0_o py0.length py0_c] (fun _ : Ay => .bool y.1) (bag (Jy s a) :: [o48 py0_o py0_c py0]) [Ent.all RLy] (fun a' => [bag (Jy y.2 a')])) (a0s : Ty) (a0a : Ay) (a1b : Nat) (a1_o : Option Addr) (a1_c : Nat) (a1 : List S_api_Item) (a2b : Nat) (a2 : Int) {y : Ty} (hm : m_backfill_Batches_1 F ky a0s a1 a2 = some y) : CallG Try.prog 31 #[.func (.yield ly) #[] #[], .pointer (some ⟨a1b, 0, none⟩), .pointer (some ⟨a2b, 0, none⟩)] (X := Ay) (fun (x0 : Ay) => .tuple #[]) [bag (Jy a0s a0a)] [r48 a1_o a1, .rd (some ⟨a1b, 0, none⟩) 1 ([[.slice a1_o a1.length a1_c]] : List (List Value)), .rd (some ⟨a2b, 0, none⟩) 1 ([[.int .i64 a2]] : List (List Value)), (Ent.all RLy)] (fun (x0 : Ay) => [bag (Jy y x0)]) := by
  intro w hg
  rw [m_backfill_Batches_1] at hm
  refine GS.start (S := mayT [bag (Jy a0s a0a)] [r48 a1_o a1, .rd (some ⟨a1b, 0, none⟩) 1 ([[.slice a1_o a1.length a1_c]] : List (List Value)), .rd (some ⟨a2b, 0, none⟩) 1 ([[.int .i64 a2]] : List (List Value)), (Ent.all RLy)]) (mem := [(1, bag (Jy a0s a0a)), (2, r48 a1_o a1), (3, .rd (some ⟨a1b, 0, none⟩) 1 ([[.slice a1_o a1.length a1_c]] : List (List Value))), (4, .rd (some ⟨a2b, 0, none⟩) 1 ([[.int .i64 a2]] : List (List Value))), (5, (Ent.all RLy))]) Try.func31 rfl Try.ntmps31 (Nat.le_of_ble_eq_true rfl) (hg.start rfl) ?_
  refine GS.conv (env' := [(0, .func (.yield ly) #[] #[]), (1, .pointer (some ⟨a1b, 0, none⟩)), (2, .pointer (some ⟨a2b, 0, none⟩))]) rfl rfl ?_
  refine GS.seq ?_
  refine GS.region (env' := fun _ => [(0, .func (.yield ly) #[] #[]), (1, .pointer (some ⟨a1b, 0, none⟩)), (2, .pointer (some ⟨a2b, 0, none⟩)), (4, .string (ByteArray.mk #[]))]) (mem' := fun _ => [(1, bag (Jy a0s a0a)), (2, r48 a1_o a1), (3, .rd (some ⟨a1b, 0, none⟩) 1 ([[.slice a1_o a1.length a1_c]] : List (List Value))), (4, .rd (some ⟨a2b, 0, none⟩) 1 ([[.int .i64 a2]] : List (List Value))), (5, (Ent.all RLy))]) (RunsTo.mk [] [0, 1, 2, 4] [1, 2, 3, 4, 5] (fun _ => []) (fun _ => by kernel_rfl) (fun _ => trivial)) ?_
  intro _
  refine GS.block ?_
  refine GS.loop ?_
  refine GS.rekey (env' := [(0, .func (.yield ly) #[] #[]), (1, .pointer (some ⟨a1b, 0, none⟩)), (2, .pointer (some ⟨a2b, 0, none⟩)), (4, .string (ByteArray.mk #[]))]) (mem' := [(1, bag (Jy a0s a0a)), (2, r48 a1_o a1), (3, .rd (some ⟨a1b, 0, none⟩) 1 ([[.slice a1_o a1.length a1_c]] : List (List Value))), (4, .rd (some ⟨a2b, 0, none⟩) 1 ([[.int .i64 a2]] : List (List Value))), (5, (Ent.all RLy))]) [0, 1, 2, 4] [(1, 1), (2, 2), (3, 3), (4, 4), (5, 5)] (by kernel_rfl) (by kernel_rfl) rfl ?_
  refine loopW_elim hm (fun st81 hst83 hm => ?_)
  refine GS.loopInv (ι := Nat × ByteArray × Ty × Ay) (I := fun ⟨rs79, v4_1, l1_1, o1_1⟩ => loopW st81 rs79 (v4_1, l1_1) = some y) (μ := fun ⟨rs79, v4_1, l1_1, o1_1⟩ => rs79) (E := fun ⟨rs79, v4_1, l1_1, o1_1⟩ => [(0, .func (.yield ly) #[] #[]), (1, .pointer (some ⟨a1b, 0, none⟩)), (2, .pointer (some ⟨a2b, 0, none⟩)), (4, .string v4_1)]) (M := fun ⟨rs79, v4_1, l1_1, o1_1⟩ => [(1, bag (Jy l1_1 o1_1)), (2, r48 a1_o a1), (3, .rd (some ⟨a1b, 0, none⟩) 1 ([[.slice a1_o a1.length a1_c]] : List (List Value))), (4, .rd (some ⟨a2b, 0, none⟩) 1 ([[.int .i64 a2]] : List (List Value))), (5, (Ent.all RLy))]) ?_ ⟨F, (ByteArray.mk #[]), a0s, a0a⟩ hm
  rintro ⟨rs79, v4_1, l1_1, o1_1⟩ hm ih80
  cases rs79 with
  | zero => cases hm
  | succ rs79 =>
    replace hm := (hst83 _ _).symm.trans hm
    try dsimp only at hm
    refine GS.block ?_
    refine GS.seq ?_
    refine bnd_elim hm (fun y54 e55 hm => ?_)
    refine GS.open_ ?_
    refine GR.run (i := 0) 3 (env' := fun _ => [(0, .func (.yield ly) #[] #[]), (1, .pointer (some ⟨a1b, 0, none⟩)), (2, .pointer (some ⟨a2b, 0, none⟩)), (8, .slice a1_o a1.length a1_c), (9, .string v4_1), (10, .int .i64 a2)]) (mem' := fun _ => [(1, bag (Jy l1_1 o1_1)), (2, r48 a1_o a1), (3, .rd (some ⟨a1b, 0, none⟩) 1 ([[.slice a1_o a1.length a1_c]] : List (List Value))), (4, .rd (some ⟨a2b, 0, none⟩) 1 ([[.int .i64 a2]] : List (List Value))), (5, (Ent.all RLy))]) (Nat.le_of_ble_eq_true (by kernel_rfl)) (RunsTo.mk [(0, { act := .load 3 0 0 [.slice a1_o a1.length a1_c] }), (2, { act := .load 4 0 0 [.int .i64 a2] })] [0, 1, 2, 8, 9, 10] [1, 2, 3, 4, 5] (fun _ => [a1b = blk (some ⟨a1b, 0, none⟩), 0 = offs (some ⟨a1b, 0, none⟩) + (0 * 1 + 0), ([[.slice a1_o a1.length a1_c]] : List (List Value))[0]? = some [.slice a1_o a1.length a1_c], a2b = blk (some ⟨a2b, 0, none⟩), 0 = offs (some ⟨a2b, 0, none⟩) + (0 * 1 + 0), ([[.int .i64 a2]] : List (List Value))[0]? = some [.int .i64 a2]]) (fun _ => by kernel_rfl) (fun _ => ⟨rfl, rfl, rfl, rfl, rfl, rfl, trivial⟩)) ?_
    intro _
    refine GR.callG (X := Option Addr × Nat) (i := 3) (g := 14) (args := #[.slice a1_o a1.length a1_c, .string v4_1, .int .i64 a2]) (v := fun ⟨x56, x57⟩ => .tuple #[.slice x56 y54.1.length x57, .bool y54.2]) (own := []) (ro := [r48 a1_o a1]) (es' := fun ⟨x56, x57⟩ => [o48 x56 x57 y54.1]) (mem' := fun ⟨x56, x57⟩ => [(1, bag (Jy l1_1 o1_1)), (2, r48 a1_o a1), (3, .rd (some ⟨a1b, 0, none⟩) 1 ([[.slice a1_o a1.length a1_c]] : List (List Value))), (4, .rd (some ⟨a2b, 0, none⟩) 1 ([[.int .i64 a2]] : List (List Value))), (5, (Ent.all RLy)), (6, o48 x56 x57 y54.1)]) (env' := fun ⟨x56, x57⟩ => [(0, .func (.yield ly) #[] #[]), (1, .pointer (some ⟨a1b, 0, none⟩)), (2, .pointer (some ⟨a2b, 0, none⟩)), (11, .tuple #[.slice x56 y54.1.length x57, .bool y54.2])]) [] [6] [0, 1, 2, 11] [1, 2, 3, 4, 5, 6] false (by kernel_rfl) (by kernel_rfl) (by kernel_rfl) (by kernel_rfl) (by kernel_rfl) (fun _ => rfl) (fun _ _ => rfl) ⟨(.inl ⟨2, _, rfl, rfl, Cov.refl _, fun h => by cases h⟩), trivial⟩ (by rintro ⟨x56, x57⟩; kernel_rfl) (by rintro ⟨x56, x57⟩; kernel_rfl) (w_backfill_Batch F a1_o a1_c a1 v4_1 a2 e55) ?_
    rintro ⟨x56, x57⟩
    refine GR.run (i := 4) 5 (env' := fun _ => [(0, .func (.yield ly) #[] #[]), (1, .pointer (some ⟨a1b, 0, none⟩)), (2, .pointer (some ⟨a2b, 0, none⟩)), (5, .slice x56 y54.1.length x57), (6, .bool y54.2)]) (mem' := fun _ => [(1, bag (Jy l1_1 o1_1)), (2, r48 a1_o a1), (3, .rd (some ⟨a1b, 0, none⟩) 1 ([[.slice a1_o a1.length a1_c]] : List (List Value))), (4, .rd (some ⟨a2b, 0, none⟩) 1 ([[.int .i64 a2]] : List (List Value))), (5, (Ent.all RLy)), (6, o48 x56 x57 y54.1)]) (Nat.le_of_ble_eq_true (by kernel_rfl)) (RunsTo.mk [] [0, 1, 2, 5, 6] [1, 2, 3, 4, 5, 6] (fun _ => []) (fun _ => by kernel_rfl) (fun _ => trivial)) ?_
    intro _
    refine GR.done (Nat.le_of_ble_eq_true (by kernel_rfl)) ?_
    refine GS.seq ?_
    refine GS.seq ?_
    refine jn_elim hm (fun J71 hJ73 hm => ?_)
    refine GS.cut (ι := Bool × Ty × Ay) (I := fun ⟨v27_4, l1_4, o1_4⟩ => J71 (v27_4, l1_4) = some y) (E := fun ⟨v27_4, l1_4, o1_4⟩ => [(0, .func (.yield ly) #[] #[]), (1, .pointer (some ⟨a1b, 0, none⟩)), (2, .pointer (some ⟨a2b, 0, none⟩)), (5, .slice x56 y54.1.length x57), (27, .bool v27_4)]) (M := fun ⟨v27_4, l1_4, o1_4⟩ => [(1, bag (Jy l1_4 o1_4)), (2, r48 a1_o a1), (3, .rd (some ⟨a1b, 0, none⟩) 1 ([[.slice a1_o a1.length a1_c]] : List (List Value))), (4, .rd (some ⟨a2b, 0, none⟩) 1 ([[.int .i64 a2]] : List (List Value))), (5, (Ent.all RLy)), (6, o48 x56 x57 y54.1)]) ?_ ?_
    rotate_left
    · intro H72
      refine br_elim hm (fun h60 hm => ?_) (fun h60 hm => ?_)
      · skip
        refine GS.region (env' := fun _ => [(0, .func (.yield ly) #[] #[]), (1, .pointer (some ⟨a1b, 0, none⟩)), (2, .pointer (some ⟨a2b, 0, none⟩)), (5, .slice x56 y54.1.length x57), (27, .bool true)]) (mem' := fun _ => [(1, bag (Jy l1_1 o1_1)), (2, r48 a1_o a1), (3, .rd (some ⟨a1b, 0, none⟩) 1 ([[.slice a1_o a1.length a1_c]] : List (List Value))), (4, .rd (some ⟨a2b, 0, none⟩) 1 ([[.int .i64 a2]] : List (List Value))), (5, (Ent.all RLy)), (6, o48 x56 x57 y54.1)]) (RunsTo.mk [(3, { sp := some (.bool true) })] [0, 1, 2, 5, 27] [1, 2, 3, 4, 5, 6] (fun _ => [((.bool (((y54.1.length : Nat) : Int) == 0)) : Value) = .bool true]) (fun _ => by kernel_rfl) (fun _ => ⟨bool_eq h60, trivial⟩)) ?_
        intro _
        refine GS.rekey (env' := [(0, .func (.yield ly) #[] #[]), (1, .pointer (some ⟨a1b, 0, none⟩)), (2, .pointer (some ⟨a2b, 0, none⟩)), (5, .slice x56 y54.1.length x57), (27, .bool true)]) (mem' := [(1, bag (Jy l1_1 o1_1)), (2, r48 a1_o a1), (3, .rd (some ⟨a1b, 0, none⟩) 1 ([[.slice a1_o a1.length a1_c]] : List (List Value))), (4, .rd (some ⟨a2b, 0, none⟩) 1 ([[.int .i64 a2]] : List (List Value))), (5, (Ent.all RLy)), (6, o48 x56 x57 y54.1)]) [0, 1, 2, 5, 27] [(1, 1), (2, 2), (3, 3), (4, 4), (5, 5), (6, 6)] (by kernel_rfl) (by kernel_rfl) rfl ?_
        exact H72 ⟨true, l1_1, o1_1⟩ hm
      · skip
        refine bnd_elim hm (fun y61 e62 hm => ?_)
        refine GS.open_ ?_
        refine GR.run (i := 0) 6 (env' := fun _ => [(0, .func (.yield ly) #[] #[]), (1, .pointer (some ⟨a1b, 0, none⟩)), (2, .pointer (some ⟨a2b, 0, none⟩)), (5, .slice x56 y54.1.length x57), (6, .bool y54.2), (17, .bool false), (18, .func (.yield ly) #[] #[]), (19, .slice x56 y54.1.length x57)]) (mem' := fun _ => [(1, bag (Jy l1_1 o1_1)), (2, r48 a1_o a1), (3, .rd (some ⟨a1b, 0, none⟩) 1 ([[.slice a1_o a1.length a1_c]] : List (List Value))), (4, .rd (some ⟨a2b, 0, none⟩) 1 ([[.int .i64 a2]] : List (List Value))), (5, (Ent.all RLy)), (6, o48 x56 x57 y54.1)]) (Nat.le_of_ble_eq_true (by kernel_rfl)) (RunsTo.mk [(3, { sp := some (.bool false) })] [0, 1, 2, 5, 6, 17, 18, 19] [1, 2, 3, 4, 5, 6] (fun _ => [((.bool (((y54.1.length : Nat) : Int) == 0)) : Value) = .bool false]) (fun _ => by kernel_rfl) (fun _ => ⟨bool_eq h60, trivial⟩)) ?_
        intro _
        refine GR.callG (X := Option Addr × Nat) (i := 6) (g := 32) (args := #[.slice x56 y54.1.length x57]) (v := fun ⟨x63, x64⟩ => .slice x63 y61.length x64) (own := []) (ro := [r48 x56 y54.1]) (es' := fun ⟨x63, x64⟩ => [o48 x63 x64 y61]) (mem' := fun ⟨x63, x64⟩ => [(1, bag (Jy l1_1 o1_1)), (2, r48 a1_o a1), (3, .rd (some ⟨a1b, 0, none⟩) 1 ([[.slice a1_o a1.length a1_c]] : List (List Value))), (4, .rd (some ⟨a2b, 0, none⟩) 1 ([[.int .i64 a2]] : List (List Value))), (5, (Ent.all RLy)), (6, o48 x56 x57 y54.1), (7, o48 x63 x64 y61)]) (env' := fun ⟨x63, x64⟩ => [(0, .func (.yield ly) #[] #[]), (1, .pointer (some ⟨a1b, 0, none⟩)), (2, .pointer (some ⟨a2b, 0, none⟩)), (5, .slice x56 y54.1.length x57), (6, .bool y54.2), (17, .bool false), (18, .func (.yield ly) #[] #[]), (20, .slice x63 y61.length x64)]) [] [7] [0, 1, 2, 5, 6, 17, 18, 20] [1, 2, 3, 4, 5, 6, 7] false (by kernel_rfl) (by kernel_rfl) (by kernel_rfl) (by kernel_rfl) (by kernel_rfl) (fun _ => rfl) (fun _ _ => rfl) ⟨(.inl ⟨6, _, rfl, rfl, Cov.osl_rd, fun h => by cases h⟩), trivial⟩ (by rintro ⟨x63, x64⟩; kernel_rfl) (by rintro ⟨x63, x64⟩; kernel_rfl) (w_slices_Clone___api_Item_api_Item_ F x56 x57 y54.1 e62) ?_
        rintro ⟨x63, x64⟩
        refine bnd_elim hm (fun y66 e67 hm => ?_)
        refine GR.callY (X := Ay) (i := 7) (l := ly) (args := #[.slice x63 y61.length x64]) (v := fun (x68 : Ay) => .bool y66.1) (own := [bag (Jy l1_1 o1_1), o48 x63 x64 y61]) (ro := [Ent.all RLy]) (es' := fun (x68 : Ay) => [bag (Jy y66.2 x68)]) (mem' := fun (x68 : Ay) => [(1, bag (Jy y66.2 x68)), (2, r48 a1_o a1), (3, .rd (some ⟨a1b, 0, none⟩) 1 ([[.slice a1_o a1.length a1_c]] : List (List Value))), (4, .rd (some ⟨a2b, 0, none⟩) 1 ([[.int .i64 a2]] : List (List Value))), (5, (Ent.all RLy)), (6, o48 x56 x57 y54.1)]) (env' := fun (x68 : Ay) => [(0, .func (.yield ly) #[] #[]), (1, .pointer (some ⟨a1b, 0, none⟩)), (2, .pointer (some ⟨a2b, 0, none⟩)), (5, .slice x56 y54.1.length x57), (6, .bool y54.2), (17, .bool false), (21, .bool y66.1)]) [1, 7] [1] [0, 1, 2, 5, 6, 17, 21] [1, 2, 3, 4, 5, 6] false (by kernel_rfl) (by kernel_rfl) (fun _ => by kernel_rfl) (by kernel_rfl) (by kernel_rfl) (fun _ => rfl) (fun _ _ => rfl) ⟨(.inl ⟨5, _, rfl, rfl, Cov.refl _, fun h => by cases h⟩), trivial⟩ (by rintro x68; kernel_rfl) (by rintro x68; kernel_rfl) (hyy l1_1 o1_1 x63 x64 y61 y66 e67) ?_
        rintro x68
        refine br_elim hm (fun h70 hm => ?_) (fun h70 hm => ?_)
        · skip
          refine GR.run (i := 8) 6 (env' := fun _ => [(0, .func (.yield ly) #[] #[]), (1, .pointer (some ⟨a1b, 0, none⟩)), (2, .pointer (some ⟨a2b, 0, none⟩)), (5, .slice x56 y54.1.length x57), (27, .bool true)]) (mem' := fun _ => [(1, bag (Jy y66.2 x68)), (2, r48 a1_o a1), (3, .rd (some ⟨a1b, 0, none⟩) 1 ([[.slice a1_o a1.length a1_c]] : List (List Value))), (4, .rd (some ⟨a2b, 0, none⟩) 1 ([[.int .i64 a2]] : List (List Value))), (5, (Ent.all RLy)), (6, o48 x56 x57 y54.1)]) (Nat.le_of_ble_eq_true (by kernel_rfl)) (RunsTo.mk [(10, { sp := some (.bool true) })] [0, 1, 2, 5, 27] [1, 2, 3, 4, 5, 6] (fun _ => [((.bool (!y66.1)) : Value) = .bool true]) (fun _ => by kernel_rfl) (fun _ => ⟨bool_eq h70, trivial⟩)) ?_
          intro _
          refine GR.done (Nat.le_of_ble_eq_true (by kernel_rfl)) ?_
          refine GS.rekey (env' := [(0, .func (.yield ly) #[] #[]), (1, .pointer (some ⟨a1b, 0, none⟩)), (2, .pointer (some ⟨a2b, 0, none⟩)), (5, .slice x56 y54.1.length x57), (27, .bool true)]) (mem' := [(1, bag (Jy y66.2 x68)), (2, r48 a1_o a1), (3, .rd (some ⟨a1b, 0, none⟩) 1 ([[.slice a1_o a1.length a1_c]] : List (List Value))), (4, .rd (some ⟨a2b, 0, none⟩) 1 ([[.int .i64 a2]] : List (List Value))), (5, (Ent.all RLy)), (6, o48 x56 x57 y54.1)]) [0, 1, 2, 5, 27] [(1, 1), (2, 2), (3, 3), (4, 4), (5, 5), (6, 6)] (by kernel_rfl) (by kernel_rfl) rfl ?_
          exact H72 ⟨true, y66.2, x68⟩ hm
        · skip
          refine GR.run (i := 8) 6 (env' := fun _ => [(0, .func (.yield ly) #[] #[]), (1, .pointer (some ⟨a1b, 0, none⟩)), (2, .pointer (some ⟨a2b, 0, none⟩)), (5, .slice x56 y54.1.length x57), (27, .bool (!y54.2))]) (mem' := fun _ => [(1, bag (Jy y66.2 x68)), (2, r48 a1_o a1), (3, .rd (some ⟨a1b, 0, none⟩) 1 ([[.slice a1_o a1.length a1_c]] : List (List Value))), (4, .rd (some ⟨a2b, 0, none⟩) 1 ([[.int .i64 a2]] : List (List Value))), (5, (Ent.all RLy)), (6, o48 x56 x57 y54.1)]) (Nat.le_of_ble_eq_true (by kernel_rfl)) (RunsTo.mk [(10, { sp := some (.bool false) })] [0, 1, 2, 5, 27] [1, 2, 3, 4, 5, 6] (fun _ => [((.bool (!y66.1)) : Value) = .bool false]) (fun _ => by kernel_rfl) (fun _ => ⟨bool_eq h70, trivial⟩)) ?_
          intro _
          refine GR.done (Nat.le_of_ble_eq_true (by kernel_rfl)) ?_
          refine GS.rekey (env' := [(0, .func (.yield ly) #[] #[]), (1, .pointer (some ⟨a1b, 0, none⟩)), (2, .pointer (some ⟨a2b, 0, none⟩)), (5, .slice x56 y54.1.length x57), (27, .bool (!y54.2))]) (mem' := [(1, bag (Jy y66.2 x68)), (2, r48 a1_o a1), (3, .rd (some ⟨a1b, 0, none⟩) 1 ([[.slice a1_o a1.length a1_c]] : List (List Value))), (4, .rd (some ⟨a2b, 0, none⟩) 1 ([[.int .i64 a2]] : List (List Value))), (5, (Ent.all RLy)), (6, o48 x56 x57 y54.1)]) [0, 1, 2, 5, 27] [(1, 1), (2, 2), (3, 3), (4, 4), (5, 5), (6, 6)] (by kernel_rfl) (by kernel_rfl) rfl ?_
          exact H72 ⟨(!y54.2), y66.2, x68⟩ hm
    · rintro ⟨v27_4, l1_4, o1_4⟩ hm
      replace hm := (hJ73 _).symm.trans hm
      try dsimp only at hm
      refine GS.cond (t := v27_4) rfl rfl (fun h74 => ?_) (fun h74 => ?_)
      · replace hm := br_t h74 hm
        have hy := Option.some.inj hm
        subst hy
        refine GS.ret (fn := Try.f31) [] [] [] rfl Try.func31 (by kernel_rfl) trivial (fun w' hs => ?_)
        exact ⟨o1_4, rfl, hs.turnedG (ks := [1]) rfl rfl⟩
      · replace hm := br_f h74 hm
        refine GS.skip ?_
        refine grd_elim hm (fun g76 hm => ?_)
        refine grd_elim hm (fun g77 hm => ?_)
        refine GS.region (env' := fun _ => [(0, .func (.yield ly) #[] #[]), (1, .pointer (some ⟨a1b, 0, none⟩)), (2, .pointer (some ⟨a2b, 0, none⟩)), (4, .string ((y54.1.getD (Int.toNat (((y54.1.length : Nat) : Int) - 1)) dS_api_Item).Name))]) (mem' := fun _ => [(1, bag (Jy l1_4 o1_4)), (2, r48 a1_o a1), (3, .rd (some ⟨a1b, 0, none⟩) 1 ([[.slice a1_o a1.length a1_c]] : List (List Value))), (4, .rd (some ⟨a2b, 0, none⟩) 1 ([[.int .i64 a2]] : List (List Value))), (5, (Ent.all RLy))]) (RunsTo.mk [(3, { sp := some (.int .i64 (((y54.1.length : Nat) : Int) - 1)) }), (4, { act := .idx 6 (Int.toNat (((y54.1.length : Nat) : Int) - 1)) }), (6, { act := .load 6 (Int.toNat (((y54.1.length : Nat) : Int) - 1)) 0 [.string ((y54.1.getD (Int.toNat (((y54.1.length : Nat) : Int) - 1)) dS_api_Item).Name), .int .i64 (((y54.1.getD (Int.toNat (((y54.1.length : Nat) : Int) - 1)) dS_api_Item).Version).Epoch), .int .i64 (((y54.1.getD (Int.toNat (((y54.1.length : Nat) : Int) - 1)) dS_api_Item).Version).N), .int .u32 ((y54.1.getD (Int.toNat (((y54.1.length : Nat) : Int) - 1)) dS_api_Item).Crc)] })] [0, 1, 2, 4] [1, 2, 3, 4, 5] (fun _ => [((.int .i64 (IntKind.i64.wrap (((y54.1.length : Nat) : Int) - 1))) : Value) = .int .i64 (((y54.1.length : Nat) : Int) - 1), x56 = x56, y54.1.length = (List.map S_api_Item.row y54.1).length, ((((y54.1.length : Nat) : Int) - 1) : Int) = (((Int.toNat (((y54.1.length : Nat) : Int) - 1)) : Nat) : Int), (Int.toNat (((y54.1.length : Nat) : Int) - 1)) < y54.1.length, blk x56 = blk x56, offs x56 + (Int.toNat (((y54.1.length : Nat) : Int) - 1)) * 4 = offs x56 + ((Int.toNat (((y54.1.length : Nat) : Int) - 1)) * 4 + 0), (List.map S_api_Item.row y54.1)[(Int.toNat (((y54.1.length : Nat) : Int) - 1))]? = some [.string ((y54.1.getD (Int.toNat (((y54.1.length : Nat) : Int) - 1)) dS_api_Item).Name), .int .i64 (((y54.1.getD (Int.toNat (((y54.1.length : Nat) : Int) - 1)) dS_api_Item).Version).Epoch), .int .i64 (((y54.1.getD (Int.toNat (((y54.1.length : Nat) : Int) - 1)) dS_api_Item).Version).N), .int .u32 ((y54.1.getD (Int.toNat (((y54.1.length : Nat) : Int) - 1)) dS_api_Item).Crc)]]) (fun _ => by kernel_rfl) (fun _ => ⟨I64.w g76, rfl, mlen S_api_Item.row y54.1, g77.eq, g77.2, rfl, rfl, map_at S_api_Item.row dS_api_Item g77.2, trivial⟩)) ?_
        intro _
        refine GS.inBlock ?_
        refine GS.inLoop ?_
        refine GS.rekey (env' := [(0, .func (.yield ly) #[] #[]), (1, .pointer (some ⟨a1b, 0, none⟩)), (2, .pointer (some ⟨a2b, 0, none⟩)), (4, .string ((y54.1.getD (Int.toNat (((y54.1.length : Nat) : Int) - 1)) dS_api_Item).Name))]) (mem' := [(1, bag (Jy l1_4 o1_4)), (2, r48 a1_o a1), (3, .rd (some ⟨a1b, 0, none⟩) 1 ([[.slice a1_o a1.length a1_c]] : List (List Value))), (4, .rd (some ⟨a2b, 0, none⟩) 1 ([[.int .i64 a2]] : List (List Value))), (5, (Ent.all RLy))]) [0, 1, 2, 4] [(1, 1), (2, 2), (3, 3), (4, 4), (5, 5)] (by kernel_rfl) (by kernel_rfl) rfl ?_
        exact ih80 ⟨rs79, ((y54.1.getD (Int.toNat (((y54.1.length : Nat) : Int) - 1)) dS_api_Item).Name), l1_4, o1_4⟩ hm (Nat.lt_succ_self _)

end Go.Proofs.Yticlccnajfjdeaa
