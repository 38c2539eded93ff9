/-
  CHAPTER 01: the functions do what their models say (5).
-/
import Derived.Test.YtmjlfdllpnkgoaaW01d
set_option linter.unusedVariables false
set_option linter.unusedSimpArgs false
set_option maxRecDepth 100000
namespace Go.Proofs.Ytmjlfdllpnkgoaa
open Go Go.RowKit Sx

theorem w___digest_Engine__Name (F : Nat) (a0b : Nat) (a0 : S_digest_Engine) (a1 : ByteArray) {y : Int} (hm : m___digest_Engine__Name F a0 a1 = some y) : CallG Try.prog 19 #[.pointer (some ⟨a0b, 0, none⟩), .string a1] (X := Unit) (fun (_ : Unit) => .int .u32 y) [] [.rd (some ⟨a0b, 0, none⟩) (List.length (([.int .u32 a0.once.done.v, .int .i32 a0.once.m.mu.state, .int .u32 a0.once.m.mu.sema] : List Value) ++ (aU32 a0.table ++ (([.int .i64 a0.calls.v] : List Value))))) ([([.int .u32 a0.once.done.v, .int .i32 a0.once.m.mu.state, .int .u32 a0.once.m.mu.sema] : List Value) ++ (aU32 a0.table ++ (([.int .i64 a0.calls.v] : List Value)))] : List (List Value))] (fun (_ : Unit) => []) := by
  intro w hg
  rw [m___digest_Engine__Name] at hm
  refine GS.start (S := mayT [] [.rd (some ⟨a0b, 0, none⟩) (List.length (([.int .u32 a0.once.done.v, .int .i32 a0.once.m.mu.state, .int .u32 a0.once.m.mu.sema] : List Value) ++ (aU32 a0.table ++ (([.int .i64 a0.calls.v] : List Value))))) ([([.int .u32 a0.once.done.v, .int .i32 a0.once.m.mu.state, .int .u32 a0.once.m.mu.sema] : List Value) ++ (aU32 a0.table ++ (([.int .i64 a0.calls.v] : List Value)))] : List (List Value))]) (mem := [(1, .rd (some ⟨a0b, 0, none⟩) (List.length (([.int .u32 a0.once.done.v, .int .i32 a0.once.m.mu.state, .int .u32 a0.once.m.mu.sema] : List Value) ++ (aU32 a0.table ++ (([.int .i64 a0.calls.v] : List Value))))) ([([.int .u32 a0.once.done.v, .int .i32 a0.once.m.mu.state, .int .u32 a0.once.m.mu.sema] : List Value) ++ (aU32 a0.table ++ (([.int .i64 a0.calls.v] : List Value)))] : List (List Value)))]) Try.func19 rfl Try.ntmps19 (Nat.le_of_ble_eq_true rfl) (hg.start rfl) ?_
  refine GS.conv (env' := [(0, .pointer (some ⟨a0b, 0, none⟩)), (1, .string a1)]) rfl rfl ?_
  refine GS.seq ?_
  refine GS.region (env' := fun _ => [(0, .pointer (some ⟨a0b, 0, none⟩)), (1, .string a1)]) (mem' := fun _ => [(1, .rd (some ⟨a0b, 0, none⟩) (List.length (([.int .u32 a0.once.done.v, .int .i32 a0.once.m.mu.state, .int .u32 a0.once.m.mu.sema] : List Value) ++ (aU32 a0.table ++ (([.int .i64 a0.calls.v] : List Value))))) ([([.int .u32 a0.once.done.v, .int .i32 a0.once.m.mu.state, .int .u32 a0.once.m.mu.sema] : List Value) ++ (aU32 a0.table ++ (([.int .i64 a0.calls.v] : List Value)))] : List (List Value)))]) (RunsTo.mk [] [0, 1] [1] (fun _ => []) (fun _ => by kernel_rfl) (fun _ => trivial)) ?_
  intro _
  refine GS.seq ?_
  refine GS.seq ?_
  refine GS.region (env' := fun _ => [(1, .string a1), (11, .bool false)]) (mem' := fun _ => []) (RunsTo.mk [] [1, 11] [] (fun _ => []) (fun _ => by kernel_rfl) (fun _ => trivial)) ?_
  intro _
  refine GS.cond (t := false) rfl rfl (fun hf => by cases hf) (fun _ => ?_)
  refine GS.skip ?_
  refine GS.seq ?_
  refine GS.region (env' := fun fr3 => [(1, .string a1), (5, .pointer (some ⟨(fr3 1).x, 0, none⟩))]) (mem' := fun fr3 => [(2, .cells ((fr3 1).x) 72 [.int .u32 2654435769, .int .u32 2654435769, .int .u32 0])]) (RunsTo.mk [(1, { act := .new .var, key := some 2 }), (2, { act := .store 0 0 [], key := some 2 })] [1, 5] [2] (fun fr3 => [(fr3 1).x = (fr3 1).x, ((.agg #[.int .u32 2654435769, .int .u32 2654435769, .int .u32 0]) : Value).cells.toList.all Value.oneCell' = true]) (fun fr3 => by kernel_rfl) (fun fr3 => ⟨rfl, rfl, trivial⟩)) ?_
  intro fr3
  refine GS.seq ?_
  refine GS.region (env' := fun _ => [(1, .string a1), (5, .pointer (some ⟨(fr3 1).x, 0, none⟩)), (6, .int .u32 (IntKind.u32.wrap ((a1.size : Nat) : Int)))]) (mem' := fun _ => [(2, .cells ((fr3 1).x) 72 [.int .u32 2654435769, .int .u32 2654435769, .int .u32 0])]) (RunsTo.mk [] [1, 5, 6] [2] (fun _ => []) (fun _ => by kernel_rfl) (fun _ => trivial)) ?_
  intro _
  refine GS.seq ?_
  refine GS.block ?_
  refine GS.loop ?_
  refine GS.rekey (env' := [(1, .string a1), (5, .pointer (some ⟨(fr3 1).x, 0, none⟩)), (6, .int .u32 (IntKind.u32.wrap ((a1.size : Nat) : Int)))]) (mem' := [(2, .cells ((fr3 1).x) 72 [.int .u32 2654435769, .int .u32 2654435769, .int .u32 0])]) [1, 5, 6] [(2, 2)] (by kernel_rfl) (by kernel_rfl) rfl ?_
  refine loopW_elim hm (fun st105 hst107 hm => ?_)
  refine GS.loopInv (ι := Nat × ByteArray × Int × Int × Int) (I := fun ⟨rs103, v1_1, c2_0_1, c2_1_1, c2_2_1⟩ => loopW st105 rs103 (v1_1, c2_0_1, c2_1_1, c2_2_1) = some y) (μ := fun ⟨rs103, v1_1, c2_0_1, c2_1_1, c2_2_1⟩ => rs103) (E := fun ⟨rs103, v1_1, c2_0_1, c2_1_1, c2_2_1⟩ => [(1, .string v1_1), (5, .pointer (some ⟨(fr3 1).x, 0, none⟩)), (6, .int .u32 (IntKind.u32.wrap ((a1.size : Nat) : Int)))]) (M := fun ⟨rs103, v1_1, c2_0_1, c2_1_1, c2_2_1⟩ => [(2, .cells ((fr3 1).x) 72 [.int .u32 c2_0_1, .int .u32 c2_1_1, .int .u32 c2_2_1])]) ?_ ⟨F, a1, 2654435769, 2654435769, 0⟩ hm
  rintro ⟨rs103, v1_1, c2_0_1, c2_1_1, c2_2_1⟩ hm ih104
  cases rs103 with
  | zero => cases hm
  | succ rs103 =>
    replace hm := (hst107 _ _).symm.trans hm
    try dsimp only at hm
    refine GS.seq ?_
    refine GS.seq ?_
    refine GS.region (env' := fun _ => [(1, .string v1_1), (5, .pointer (some ⟨(fr3 1).x, 0, none⟩)), (6, .int .u32 (IntKind.u32.wrap ((a1.size : Nat) : Int))), (18, .bool (decide (((v1_1.size : Nat) : Int) ≥ 12)))]) (mem' := fun _ => [(2, .cells ((fr3 1).x) 72 [.int .u32 c2_0_1, .int .u32 c2_1_1, .int .u32 c2_2_1])]) (RunsTo.mk [] [1, 5, 6, 18] [2] (fun _ => []) (fun _ => by kernel_rfl) (fun _ => trivial)) ?_
    intro _
    refine GS.cond (t := decide (((v1_1.size : Nat) : Int) ≥ 12)) rfl rfl (fun h71 => ?_) (fun h71 => ?_)
    · replace hm := br_t h71 hm
      refine GS.skip ?_
      refine GS.block ?_
      refine GS.seq ?_
      refine GS.seq ?_
      refine GS.region (env' := fun _ => [(1, .string v1_1), (5, .pointer (some ⟨(fr3 1).x, 0, none⟩)), (6, .int .u32 (IntKind.u32.wrap ((a1.size : Nat) : Int))), (19, .int .i64 0)]) (mem' := fun _ => [(2, .cells ((fr3 1).x) 72 [.int .u32 c2_0_1, .int .u32 c2_1_1, .int .u32 c2_2_1])]) (RunsTo.mk [] [1, 5, 6, 19] [2] (fun _ => []) (fun _ => by kernel_rfl) (fun _ => trivial)) ?_
      intro _
      refine GS.block ?_
      refine GS.loop ?_
      refine GS.seq ?_
      refine GS.region (env' := fun _ => [(1, .string v1_1), (5, .pointer (some ⟨(fr3 1).x, 0, none⟩)), (6, .int .u32 (IntKind.u32.wrap ((a1.size : Nat) : Int))), (19, .int .i64 0), (20, .bool true)]) (mem' := fun _ => [(2, .cells ((fr3 1).x) 72 [.int .u32 c2_0_1, .int .u32 c2_1_1, .int .u32 c2_2_1])]) (RunsTo.mk [] [1, 5, 6, 19, 20] [2] (fun _ => []) (fun _ => by kernel_rfl) (fun _ => trivial)) ?_
      intro _
      refine GS.seq ?_
      refine GS.cond (t := true) rfl rfl (fun _ => ?_) (fun hf => by cases hf)
      refine GS.skip ?_
      refine GS.seq ?_
      refine GS.block ?_
      refine GS.seq ?_
      refine GS.region (env' := fun _ => [(1, .string v1_1), (5, .pointer (some ⟨(fr3 1).x, 0, none⟩)), (6, .int .u32 (IntKind.u32.wrap ((a1.size : Nat) : Int))), (7, .int .i64 0), (19, .int .i64 0)]) (mem' := fun _ => [(2, .cells ((fr3 1).x) 72 [.int .u32 c2_0_1, .int .u32 c2_1_1, .int .u32 c2_2_1])]) (RunsTo.mk [] [1, 5, 6, 7, 19] [2] (fun _ => []) (fun _ => by kernel_rfl) (fun _ => trivial)) ?_
      intro _
      refine grd_elim hm (fun g76 hm => ?_)
      refine bnd_elim hm (fun y77 e78 hm => ?_)
      refine GS.region (env' := fun _ => [(1, .string v1_1), (5, .pointer (some ⟨(fr3 1).x, 0, none⟩)), (6, .int .u32 (IntKind.u32.wrap ((a1.size : Nat) : Int))), (19, .int .i64 0)]) (mem' := fun _ => [(2, .cells ((fr3 1).x) 72 [.int .u32 (IntKind.u32.wrap (c2_0_1 + y77)), .int .u32 c2_1_1, .int .u32 c2_2_1])]) (RunsTo.mkd [(2, { act := .load 2 0 0 [] }), (9, { act := .cut 0 4 0 }), (10, { act := .call [] (.int .u32 y77) }), (13, { act := .store 0 0 [], key := some 2 })] [1, 5, 6, 19] [2] (fun _ => [(fr3 1).x = (fr3 1).x, 0 = ((0 : Nat) : Int), 4 = ((4 : Nat) : Int), 0 ≤ 4, 4 ≤ v1_1.size, CallOK Try.prog 36 #[.string (v1_1.extract 0 4)] (.int .u32 y77) [], (fr3 1).x = (fr3 1).x, ((.int .u32 (IntKind.u32.wrap (c2_0_1 + y77))) : Value).cells.toList.all Value.oneCell' = true]) (by kernel_rfl) (by kernel_rfl) (fun _ => by kernel_rfl) (fun _ => ⟨rfl, rfl, rfl, (Nat.zero_le _), g76, (w_digest_word F (v1_1.extract 0 4) e78).ok trivial, rfl, rfl, trivial⟩)) ?_
      intro _
      refine GS.inBlock ?_
      refine GS.region (env' := fun _ => [(1, .string v1_1), (5, .pointer (some ⟨(fr3 1).x, 0, none⟩)), (6, .int .u32 (IntKind.u32.wrap ((a1.size : Nat) : Int))), (19, .int .i64 1)]) (mem' := fun _ => [(2, .cells ((fr3 1).x) 72 [.int .u32 (IntKind.u32.wrap (c2_0_1 + y77)), .int .u32 c2_1_1, .int .u32 c2_2_1])]) (RunsTo.mk [] [1, 5, 6, 19] [2] (fun _ => []) (fun _ => by kernel_rfl) (fun _ => trivial)) ?_
      intro _
      refine GS.inLoop ?_
      refine GS.seq ?_
      refine GS.region (env' := fun _ => [(1, .string v1_1), (5, .pointer (some ⟨(fr3 1).x, 0, none⟩)), (6, .int .u32 (IntKind.u32.wrap ((a1.size : Nat) : Int))), (19, .int .i64 1), (20, .bool true)]) (mem' := fun _ => [(2, .cells ((fr3 1).x) 72 [.int .u32 (IntKind.u32.wrap (c2_0_1 + y77)), .int .u32 c2_1_1, .int .u32 c2_2_1])]) (RunsTo.mk [] [1, 5, 6, 19, 20] [2] (fun _ => []) (fun _ => by kernel_rfl) (fun _ => trivial)) ?_
      intro _
      refine GS.seq ?_
      refine GS.cond (t := true) rfl rfl (fun _ => ?_) (fun hf => by cases hf)
      refine GS.skip ?_
      refine GS.seq ?_
      refine GS.block ?_
      refine GS.seq ?_
      refine GS.region (env' := fun _ => [(1, .string v1_1), (5, .pointer (some ⟨(fr3 1).x, 0, none⟩)), (6, .int .u32 (IntKind.u32.wrap ((a1.size : Nat) : Int))), (7, .int .i64 1), (19, .int .i64 1)]) (mem' := fun _ => [(2, .cells ((fr3 1).x) 72 [.int .u32 (IntKind.u32.wrap (c2_0_1 + y77)), .int .u32 c2_1_1, .int .u32 c2_2_1])]) (RunsTo.mk [] [1, 5, 6, 7, 19] [2] (fun _ => []) (fun _ => by kernel_rfl) (fun _ => trivial)) ?_
      intro _
      refine grd_elim hm (fun g83 hm => ?_)
      refine grd_elim hm (fun g84 hm => ?_)
      refine bnd_elim hm (fun y85 e86 hm => ?_)
      refine GS.region (env' := fun _ => [(1, .string v1_1), (5, .pointer (some ⟨(fr3 1).x, 0, none⟩)), (6, .int .u32 (IntKind.u32.wrap ((a1.size : Nat) : Int))), (19, .int .i64 1)]) (mem' := fun _ => [(2, .cells ((fr3 1).x) 72 [.int .u32 (IntKind.u32.wrap (c2_0_1 + y77)), .int .u32 (IntKind.u32.wrap (c2_1_1 + y85)), .int .u32 c2_2_1])]) (RunsTo.mkd [(2, { act := .load 2 0 0 [] }), (9, { act := .cut 4 8 0 }), (10, { act := .call [] (.int .u32 y85) }), (13, { act := .store 0 0 [], key := some 2 })] [1, 5, 6, 19] [2] (fun _ => [(fr3 1).x = (fr3 1).x, 4 = ((4 : Nat) : Int), 8 = ((8 : Nat) : Int), 4 ≤ 8, 8 ≤ v1_1.size, CallOK Try.prog 36 #[.string (v1_1.extract 4 8)] (.int .u32 y85) [], (fr3 1).x = (fr3 1).x, ((.int .u32 (IntKind.u32.wrap (c2_1_1 + y85))) : Value).cells.toList.all Value.oneCell' = true]) (by kernel_rfl) (by kernel_rfl) (fun _ => by kernel_rfl) (fun _ => ⟨rfl, rfl, rfl, g84, g83, (w_digest_word F (v1_1.extract 4 8) e86).ok trivial, rfl, rfl, trivial⟩)) ?_
      intro _
      refine GS.inBlock ?_
      refine GS.region (env' := fun _ => [(1, .string v1_1), (5, .pointer (some ⟨(fr3 1).x, 0, none⟩)), (6, .int .u32 (IntKind.u32.wrap ((a1.size : Nat) : Int))), (19, .int .i64 2)]) (mem' := fun _ => [(2, .cells ((fr3 1).x) 72 [.int .u32 (IntKind.u32.wrap (c2_0_1 + y77)), .int .u32 (IntKind.u32.wrap (c2_1_1 + y85)), .int .u32 c2_2_1])]) (RunsTo.mk [] [1, 5, 6, 19] [2] (fun _ => []) (fun _ => by kernel_rfl) (fun _ => trivial)) ?_
      intro _
      refine GS.inLoop ?_
      refine GS.seq ?_
      refine GS.region (env' := fun _ => [(1, .string v1_1), (5, .pointer (some ⟨(fr3 1).x, 0, none⟩)), (6, .int .u32 (IntKind.u32.wrap ((a1.size : Nat) : Int))), (19, .int .i64 2), (20, .bool true)]) (mem' := fun _ => [(2, .cells ((fr3 1).x) 72 [.int .u32 (IntKind.u32.wrap (c2_0_1 + y77)), .int .u32 (IntKind.u32.wrap (c2_1_1 + y85)), .int .u32 c2_2_1])]) (RunsTo.mk [] [1, 5, 6, 19, 20] [2] (fun _ => []) (fun _ => by kernel_rfl) (fun _ => trivial)) ?_
      intro _
      refine GS.seq ?_
      refine GS.cond (t := true) rfl rfl (fun _ => ?_) (fun hf => by cases hf)
      refine GS.skip ?_
      refine GS.seq ?_
      refine GS.block ?_
      refine GS.seq ?_
      refine GS.region (env' := fun _ => [(1, .string v1_1), (5, .pointer (some ⟨(fr3 1).x, 0, none⟩)), (6, .int .u32 (IntKind.u32.wrap ((a1.size : Nat) : Int))), (7, .int .i64 2), (19, .int .i64 2)]) (mem' := fun _ => [(2, .cells ((fr3 1).x) 72 [.int .u32 (IntKind.u32.wrap (c2_0_1 + y77)), .int .u32 (IntKind.u32.wrap (c2_1_1 + y85)), .int .u32 c2_2_1])]) (RunsTo.mk [] [1, 5, 6, 7, 19] [2] (fun _ => []) (fun _ => by kernel_rfl) (fun _ => trivial)) ?_
      intro _
      refine grd_elim hm (fun g91 hm => ?_)
      refine grd_elim hm (fun g92 hm => ?_)
      refine bnd_elim hm (fun y93 e94 hm => ?_)
      refine GS.region (env' := fun _ => [(1, .string v1_1), (5, .pointer (some ⟨(fr3 1).x, 0, none⟩)), (6, .int .u32 (IntKind.u32.wrap ((a1.size : Nat) : Int))), (19, .int .i64 2)]) (mem' := fun _ => [(2, .cells ((fr3 1).x) 72 [.int .u32 (IntKind.u32.wrap (c2_0_1 + y77)), .int .u32 (IntKind.u32.wrap (c2_1_1 + y85)), .int .u32 (IntKind.u32.wrap (c2_2_1 + y93))])]) (RunsTo.mkd [(2, { act := .load 2 0 0 [] }), (9, { act := .cut 8 12 0 }), (10, { act := .call [] (.int .u32 y93) }), (13, { act := .store 0 0 [], key := some 2 })] [1, 5, 6, 19] [2] (fun _ => [(fr3 1).x = (fr3 1).x, 8 = ((8 : Nat) : Int), 12 = ((12 : Nat) : Int), 8 ≤ 12, 12 ≤ v1_1.size, CallOK Try.prog 36 #[.string (v1_1.extract 8 12)] (.int .u32 y93) [], (fr3 1).x = (fr3 1).x, ((.int .u32 (IntKind.u32.wrap (c2_2_1 + y93))) : Value).cells.toList.all Value.oneCell' = true]) (by kernel_rfl) (by kernel_rfl) (fun _ => by kernel_rfl) (fun _ => ⟨rfl, rfl, rfl, g92, g91, (w_digest_word F (v1_1.extract 8 12) e94).ok trivial, rfl, rfl, trivial⟩)) ?_
      intro _
      refine GS.inBlock ?_
      refine GS.region (env' := fun _ => [(1, .string v1_1), (5, .pointer (some ⟨(fr3 1).x, 0, none⟩)), (6, .int .u32 (IntKind.u32.wrap ((a1.size : Nat) : Int))), (19, .int .i64 3)]) (mem' := fun _ => [(2, .cells ((fr3 1).x) 72 [.int .u32 (IntKind.u32.wrap (c2_0_1 + y77)), .int .u32 (IntKind.u32.wrap (c2_1_1 + y85)), .int .u32 (IntKind.u32.wrap (c2_2_1 + y93))])]) (RunsTo.mk [] [1, 5, 6, 19] [2] (fun _ => []) (fun _ => by kernel_rfl) (fun _ => trivial)) ?_
      intro _
      refine GS.inLoop ?_
      refine GS.seq ?_
      refine GS.region (env' := fun _ => [(1, .string v1_1), (5, .pointer (some ⟨(fr3 1).x, 0, none⟩)), (6, .int .u32 (IntKind.u32.wrap ((a1.size : Nat) : Int))), (19, .int .i64 3), (20, .bool false)]) (mem' := fun _ => [(2, .cells ((fr3 1).x) 72 [.int .u32 (IntKind.u32.wrap (c2_0_1 + y77)), .int .u32 (IntKind.u32.wrap (c2_1_1 + y85)), .int .u32 (IntKind.u32.wrap (c2_2_1 + y93))])]) (RunsTo.mk [] [1, 5, 6, 19, 20] [2] (fun _ => []) (fun _ => by kernel_rfl) (fun _ => trivial)) ?_
      intro _
      refine GS.seq ?_
      refine GS.cond (t := false) rfl rfl (fun hf => by cases hf) (fun _ => ?_)
      refine GS.exit rfl ?_
      refine GS.seq ?_
      refine bnd_elim hm (fun y98 e99 hm => ?_)
      refine GS.open_ ?_
      refine GR.callG (X := Unit) (i := 0) (g := 37) (args := #[.pointer (some ⟨(fr3 1).x, 0, none⟩)]) (v := fun (_ : Unit) => .tuple #[]) (own := [.cells ((fr3 1).x) 72 [.int .u32 (IntKind.u32.wrap (c2_0_1 + y77)), .int .u32 (IntKind.u32.wrap (c2_1_1 + y85)), .int .u32 (IntKind.u32.wrap (c2_2_1 + y93))]]) (ro := []) (es' := fun (_ : Unit) => [.cells ((fr3 1).x) 72 [.int .u32 y98.1, .int .u32 y98.2.1, .int .u32 y98.2.2]]) (mem' := fun (_ : Unit) => [(2, .cells ((fr3 1).x) 72 [.int .u32 y98.1, .int .u32 y98.2.1, .int .u32 y98.2.2])]) (env' := fun (_ : Unit) => [(1, .string v1_1), (5, .pointer (some ⟨(fr3 1).x, 0, none⟩)), (6, .int .u32 (IntKind.u32.wrap ((a1.size : Nat) : Int)))]) [2] [2] [1, 5, 6] [2] false (by kernel_rfl) (by kernel_rfl) (by kernel_rfl) (by kernel_rfl) (by kernel_rfl) (fun _ => rfl) (fun _ _ => rfl) trivial (by rintro _; kernel_rfl) (by rintro _; kernel_rfl) (w___digest_trio__mix F (fr3 1).x (IntKind.u32.wrap (c2_0_1 + y77)) (IntKind.u32.wrap (c2_1_1 + y85)) (IntKind.u32.wrap (c2_2_1 + y93)) e99) ?_
      rintro _
      refine GR.done (Nat.le_of_ble_eq_true (by kernel_rfl)) ?_
      refine GS.region (env' := fun _ => [(1, .string (v1_1.extract 12 v1_1.size)), (5, .pointer (some ⟨(fr3 1).x, 0, none⟩)), (6, .int .u32 (IntKind.u32.wrap ((a1.size : Nat) : Int)))]) (mem' := fun _ => [(2, .cells ((fr3 1).x) 72 [.int .u32 y98.1, .int .u32 y98.2.1, .int .u32 y98.2.2])]) (RunsTo.mk [(1, { act := .cut 12 v1_1.size 0 })] [1, 5, 6] [2] (fun _ => [12 = ((12 : Nat) : Int), v1_1.size = v1_1.size, 12 ≤ v1_1.size, v1_1.size ≤ v1_1.size]) (fun _ => by kernel_rfl) (fun _ => ⟨rfl, rfl, g91, (Nat.le_refl _), trivial⟩)) ?_
      intro _
      refine GS.inBlock ?_
      refine GS.inLoop ?_
      refine GS.rekey (env' := [(1, .string (v1_1.extract 12 v1_1.size)), (5, .pointer (some ⟨(fr3 1).x, 0, none⟩)), (6, .int .u32 (IntKind.u32.wrap ((a1.size : Nat) : Int)))]) (mem' := [(2, .cells ((fr3 1).x) 72 [.int .u32 y98.1, .int .u32 y98.2.1, .int .u32 y98.2.2])]) [1, 5, 6] [(2, 2)] (by kernel_rfl) (by kernel_rfl) rfl ?_
      exact ih104 ⟨rs103, (v1_1.extract 12 v1_1.size), y98.1, y98.2.1, y98.2.2⟩ hm (Nat.lt_succ_self _)
    · replace hm := br_f h71 hm
      refine GS.exit rfl ?_
      refine GS.seq ?_
      refine GS.region (env' := fun _ => [(1, .string v1_1), (5, .pointer (some ⟨(fr3 1).x, 0, none⟩))]) (mem' := fun _ => [(2, .cells ((fr3 1).x) 72 [.int .u32 c2_0_1, .int .u32 c2_1_1, .int .u32 (IntKind.u32.wrap (c2_2_1 + (IntKind.u32.wrap ((a1.size : Nat) : Int))))])]) (RunsTo.mk [(1, { act := .load 2 0 0 [] }), (5, { act := .store 0 0 [], key := some 2 })] [1, 5] [2] (fun _ => [(fr3 1).x = (fr3 1).x, (fr3 1).x = (fr3 1).x, ((.int .u32 (IntKind.u32.wrap (c2_2_1 + (IntKind.u32.wrap ((a1.size : Nat) : Int))))) : Value).cells.toList.all Value.oneCell' = true]) (fun _ => by kernel_rfl) (fun _ => ⟨rfl, rfl, rfl, trivial⟩)) ?_
      intro _
      refine GS.seq ?_
      refine GS.seq ?_
      refine GS.region (env' := fun _ => [(1, .string v1_1), (5, .pointer (some ⟨(fr3 1).x, 0, none⟩)), (44, .int .i64 0)]) (mem' := fun _ => [(2, .cells ((fr3 1).x) 72 [.int .u32 c2_0_1, .int .u32 c2_1_1, .int .u32 (IntKind.u32.wrap (c2_2_1 + (IntKind.u32.wrap ((a1.size : Nat) : Int))))])]) (RunsTo.mk [] [1, 5, 44] [2] (fun _ => []) (fun _ => by kernel_rfl) (fun _ => trivial)) ?_
      intro _
      refine jn_elim hm (fun J167 hJ169 hm => ?_)
      refine GS.cut (ι := Int × Int × Int) (I := fun ⟨c2_0_8, c2_1_8, c2_2_8⟩ => J167 (c2_0_8, c2_1_8, c2_2_8) = some y) (E := fun ⟨c2_0_8, c2_1_8, c2_2_8⟩ => [(5, .pointer (some ⟨(fr3 1).x, 0, none⟩))]) (M := fun ⟨c2_0_8, c2_1_8, c2_2_8⟩ => [(2, .cells ((fr3 1).x) 72 [.int .u32 c2_0_8, .int .u32 c2_1_8, .int .u32 c2_2_8])]) ?_ ?_
      rotate_left
      · intro H168
        refine GS.block ?_
        refine GS.loop ?_
        refine GS.seq ?_
        refine GS.region (env' := fun _ => [(1, .string v1_1), (5, .pointer (some ⟨(fr3 1).x, 0, none⟩)), (44, .int .i64 0), (45, .bool true)]) (mem' := fun _ => [(2, .cells ((fr3 1).x) 72 [.int .u32 c2_0_1, .int .u32 c2_1_1, .int .u32 (IntKind.u32.wrap (c2_2_1 + (IntKind.u32.wrap ((a1.size : Nat) : Int))))])]) (RunsTo.mk [] [1, 5, 44, 45] [2] (fun _ => []) (fun _ => by kernel_rfl) (fun _ => trivial)) ?_
        intro _
        refine GS.seq ?_
        refine GS.cond (t := true) rfl rfl (fun _ => ?_) (fun hf => by cases hf)
        refine GS.skip ?_
        refine GS.seq ?_
        refine jn_elim hm (fun J123 hJ125 hm => ?_)
        refine GS.cut (ι := Int) (I := fun (c2_0_3 : Int) => J123 c2_0_3 = some y) (E := fun (c2_0_3 : Int) => [(1, .string v1_1), (5, .pointer (some ⟨(fr3 1).x, 0, none⟩)), (44, .int .i64 0)]) (M := fun (c2_0_3 : Int) => [(2, .cells ((fr3 1).x) 72 [.int .u32 c2_0_3, .int .u32 c2_1_1, .int .u32 (IntKind.u32.wrap (c2_2_1 + (IntKind.u32.wrap ((a1.size : Nat) : Int))))])]) ?_ ?_
        rotate_left
        · intro H124
          refine GS.block ?_
          refine GS.seq ?_
          refine GS.region (env' := fun _ => [(1, .string v1_1), (5, .pointer (some ⟨(fr3 1).x, 0, none⟩)), (8, .int .i64 0), (44, .int .i64 0)]) (mem' := fun _ => [(2, .cells ((fr3 1).x) 72 [.int .u32 c2_0_1, .int .u32 c2_1_1, .int .u32 (IntKind.u32.wrap (c2_2_1 + (IntKind.u32.wrap ((a1.size : Nat) : Int))))])]) (RunsTo.mk [] [1, 5, 8, 44] [2] (fun _ => []) (fun _ => by kernel_rfl) (fun _ => trivial)) ?_
          intro _
          refine GS.seq ?_
          refine GS.region (env' := fun _ => [(1, .string v1_1), (5, .pointer (some ⟨(fr3 1).x, 0, none⟩)), (8, .int .i64 0), (44, .int .i64 0), (51, .bool (decide (((v1_1.size : Nat) : Int) > 0)))]) (mem' := fun _ => [(2, .cells ((fr3 1).x) 72 [.int .u32 c2_0_1, .int .u32 c2_1_1, .int .u32 (IntKind.u32.wrap (c2_2_1 + (IntKind.u32.wrap ((a1.size : Nat) : Int))))])]) (RunsTo.mk [] [1, 5, 8, 44, 51] [2] (fun _ => []) (fun _ => by kernel_rfl) (fun _ => trivial)) ?_
          intro _
          refine GS.cond (t := decide (((v1_1.size : Nat) : Int) > 0)) rfl rfl (fun h114 => ?_) (fun h114 => ?_)
          · replace hm := br_t h114 hm
            refine GS.seq ?_
            refine bnd_elim hm (fun y116 e117 hm => ?_)
            refine GS.region (env' := fun _ => [(1, .string v1_1), (5, .pointer (some ⟨(fr3 1).x, 0, none⟩)), (8, .int .i64 0), (9, .int .u32 y116), (44, .int .i64 0)]) (mem' := fun _ => [(2, .cells ((fr3 1).x) 72 [.int .u32 c2_0_1, .int .u32 c2_1_1, .int .u32 (IntKind.u32.wrap (c2_2_1 + (IntKind.u32.wrap ((a1.size : Nat) : Int))))])]) (RunsTo.mk [(3, { act := .cut 0 v1_1.size 0 }), (4, { act := .call [] (.int .u32 y116) })] [1, 5, 8, 9, 44] [2] (fun _ => [0 = ((0 : Nat) : Int), v1_1.size = v1_1.size, 0 ≤ v1_1.size, v1_1.size ≤ v1_1.size, CallOK Try.prog 36 #[.string (v1_1.extract 0 v1_1.size)] (.int .u32 y116) []]) (fun _ => by kernel_rfl) (fun _ => ⟨rfl, rfl, (Nat.zero_le _), (Nat.le_refl _), (w_digest_word F (v1_1.extract 0 v1_1.size) e117).ok trivial, trivial⟩)) ?_
            intro _
            refine GS.seq ?_
            refine GS.seq ?_
            refine GS.region (env' := fun _ => [(1, .string v1_1), (5, .pointer (some ⟨(fr3 1).x, 0, none⟩)), (8, .int .i64 0), (9, .int .u32 y116), (44, .int .i64 0), (58, .bool false)]) (mem' := fun _ => [(2, .cells ((fr3 1).x) 72 [.int .u32 c2_0_1, .int .u32 c2_1_1, .int .u32 (IntKind.u32.wrap (c2_2_1 + (IntKind.u32.wrap ((a1.size : Nat) : Int))))])]) (RunsTo.mk [] [1, 5, 8, 9, 44, 58] [2] (fun _ => []) (fun _ => by kernel_rfl) (fun _ => trivial)) ?_
            intro _
            refine GS.cond (t := false) rfl rfl (fun hf => by cases hf) (fun _ => ?_)
            refine GS.skip ?_
            refine GS.region (env' := fun _ => [(1, .string v1_1), (5, .pointer (some ⟨(fr3 1).x, 0, none⟩)), (44, .int .i64 0)]) (mem' := fun _ => [(2, .cells ((fr3 1).x) 72 [.int .u32 (IntKind.u32.wrap (c2_0_1 + y116)), .int .u32 c2_1_1, .int .u32 (IntKind.u32.wrap (c2_2_1 + (IntKind.u32.wrap ((a1.size : Nat) : Int))))])]) (RunsTo.mk [(2, { act := .load 2 0 0 [] }), (6, { act := .store 0 0 [], key := some 2 })] [1, 5, 44] [2] (fun _ => [(fr3 1).x = (fr3 1).x, (fr3 1).x = (fr3 1).x, ((.int .u32 (IntKind.u32.wrap (c2_0_1 + y116))) : Value).cells.toList.all Value.oneCell' = true]) (fun _ => by kernel_rfl) (fun _ => ⟨rfl, rfl, rfl, trivial⟩)) ?_
            intro _
            refine GS.inBlock ?_
            refine GS.rekey (env' := [(1, .string v1_1), (5, .pointer (some ⟨(fr3 1).x, 0, none⟩)), (44, .int .i64 0)]) (mem' := [(2, .cells ((fr3 1).x) 72 [.int .u32 (IntKind.u32.wrap (c2_0_1 + y116)), .int .u32 c2_1_1, .int .u32 (IntKind.u32.wrap (c2_2_1 + (IntKind.u32.wrap ((a1.size : Nat) : Int))))])]) [1, 5, 44] [(2, 2)] (by kernel_rfl) (by kernel_rfl) rfl ?_
            exact H124 (IntKind.u32.wrap (c2_0_1 + y116)) hm
          · replace hm := br_f h114 hm
            refine GS.skip ?_
            refine GS.inBlock ?_
            refine GS.rekey (env' := [(1, .string v1_1), (5, .pointer (some ⟨(fr3 1).x, 0, none⟩)), (44, .int .i64 0)]) (mem' := [(2, .cells ((fr3 1).x) 72 [.int .u32 c2_0_1, .int .u32 c2_1_1, .int .u32 (IntKind.u32.wrap (c2_2_1 + (IntKind.u32.wrap ((a1.size : Nat) : Int))))])]) [1, 5, 44] [(2, 2)] (by kernel_rfl) (by kernel_rfl) rfl ?_
            exact H124 c2_0_1 hm
        · rintro c2_0_3 hm
          replace hm := (hJ125 _).symm.trans hm
          try dsimp only at hm
          refine GS.region (env' := fun _ => [(1, .string v1_1), (5, .pointer (some ⟨(fr3 1).x, 0, none⟩)), (44, .int .i64 1)]) (mem' := fun _ => [(2, .cells ((fr3 1).x) 72 [.int .u32 c2_0_3, .int .u32 c2_1_1, .int .u32 (IntKind.u32.wrap (c2_2_1 + (IntKind.u32.wrap ((a1.size : Nat) : Int))))])]) (RunsTo.mk [] [1, 5, 44] [2] (fun _ => []) (fun _ => by kernel_rfl) (fun _ => trivial)) ?_
          intro _
          refine GS.inLoop ?_
          refine GS.seq ?_
          refine GS.region (env' := fun _ => [(1, .string v1_1), (5, .pointer (some ⟨(fr3 1).x, 0, none⟩)), (44, .int .i64 1), (45, .bool true)]) (mem' := fun _ => [(2, .cells ((fr3 1).x) 72 [.int .u32 c2_0_3, .int .u32 c2_1_1, .int .u32 (IntKind.u32.wrap (c2_2_1 + (IntKind.u32.wrap ((a1.size : Nat) : Int))))])]) (RunsTo.mk [] [1, 5, 44, 45] [2] (fun _ => []) (fun _ => by kernel_rfl) (fun _ => trivial)) ?_
          intro _
          refine GS.seq ?_
          refine GS.cond (t := true) rfl rfl (fun _ => ?_) (fun hf => by cases hf)
          refine GS.skip ?_
          refine GS.seq ?_
          refine jn_elim hm (fun J140 hJ142 hm => ?_)
          refine GS.cut (ι := Int) (I := fun (c2_1_5 : Int) => J140 c2_1_5 = some y) (E := fun (c2_1_5 : Int) => [(1, .string v1_1), (5, .pointer (some ⟨(fr3 1).x, 0, none⟩)), (44, .int .i64 1)]) (M := fun (c2_1_5 : Int) => [(2, .cells ((fr3 1).x) 72 [.int .u32 c2_0_3, .int .u32 c2_1_5, .int .u32 (IntKind.u32.wrap (c2_2_1 + (IntKind.u32.wrap ((a1.size : Nat) : Int))))])]) ?_ ?_
          rotate_left
          · intro H141
            refine GS.block ?_
            refine GS.seq ?_
            refine GS.region (env' := fun _ => [(1, .string v1_1), (5, .pointer (some ⟨(fr3 1).x, 0, none⟩)), (8, .int .i64 1), (44, .int .i64 1)]) (mem' := fun _ => [(2, .cells ((fr3 1).x) 72 [.int .u32 c2_0_3, .int .u32 c2_1_1, .int .u32 (IntKind.u32.wrap (c2_2_1 + (IntKind.u32.wrap ((a1.size : Nat) : Int))))])]) (RunsTo.mk [] [1, 5, 8, 44] [2] (fun _ => []) (fun _ => by kernel_rfl) (fun _ => trivial)) ?_
            intro _
            refine GS.seq ?_
            refine GS.region (env' := fun _ => [(1, .string v1_1), (5, .pointer (some ⟨(fr3 1).x, 0, none⟩)), (8, .int .i64 1), (44, .int .i64 1), (51, .bool (decide (((v1_1.size : Nat) : Int) > 4)))]) (mem' := fun _ => [(2, .cells ((fr3 1).x) 72 [.int .u32 c2_0_3, .int .u32 c2_1_1, .int .u32 (IntKind.u32.wrap (c2_2_1 + (IntKind.u32.wrap ((a1.size : Nat) : Int))))])]) (RunsTo.mk [] [1, 5, 8, 44, 51] [2] (fun _ => []) (fun _ => by kernel_rfl) (fun _ => trivial)) ?_
            intro _
            refine GS.cond (t := decide (((v1_1.size : Nat) : Int) > 4)) rfl rfl (fun h130 => ?_) (fun h130 => ?_)
            · replace hm := br_t h130 hm
              refine GS.seq ?_
              refine grd_elim hm (fun g132 hm => ?_)
              refine bnd_elim hm (fun y133 e134 hm => ?_)
              refine GS.region (env' := fun _ => [(1, .string v1_1), (5, .pointer (some ⟨(fr3 1).x, 0, none⟩)), (8, .int .i64 1), (9, .int .u32 y133), (44, .int .i64 1)]) (mem' := fun _ => [(2, .cells ((fr3 1).x) 72 [.int .u32 c2_0_3, .int .u32 c2_1_1, .int .u32 (IntKind.u32.wrap (c2_2_1 + (IntKind.u32.wrap ((a1.size : Nat) : Int))))])]) (RunsTo.mk [(3, { act := .cut 4 v1_1.size 0 }), (4, { act := .call [] (.int .u32 y133) })] [1, 5, 8, 9, 44] [2] (fun _ => [4 = ((4 : Nat) : Int), v1_1.size = v1_1.size, 4 ≤ v1_1.size, v1_1.size ≤ v1_1.size, CallOK Try.prog 36 #[.string (v1_1.extract 4 v1_1.size)] (.int .u32 y133) []]) (fun _ => by kernel_rfl) (fun _ => ⟨rfl, rfl, g132, (Nat.le_refl _), (w_digest_word F (v1_1.extract 4 v1_1.size) e134).ok trivial, trivial⟩)) ?_
              intro _
              refine GS.seq ?_
              refine GS.seq ?_
              refine GS.region (env' := fun _ => [(1, .string v1_1), (5, .pointer (some ⟨(fr3 1).x, 0, none⟩)), (8, .int .i64 1), (9, .int .u32 y133), (44, .int .i64 1), (58, .bool false)]) (mem' := fun _ => [(2, .cells ((fr3 1).x) 72 [.int .u32 c2_0_3, .int .u32 c2_1_1, .int .u32 (IntKind.u32.wrap (c2_2_1 + (IntKind.u32.wrap ((a1.size : Nat) : Int))))])]) (RunsTo.mk [] [1, 5, 8, 9, 44, 58] [2] (fun _ => []) (fun _ => by kernel_rfl) (fun _ => trivial)) ?_
              intro _
              refine GS.cond (t := false) rfl rfl (fun hf => by cases hf) (fun _ => ?_)
              refine GS.skip ?_
              refine GS.region (env' := fun _ => [(1, .string v1_1), (5, .pointer (some ⟨(fr3 1).x, 0, none⟩)), (44, .int .i64 1)]) (mem' := fun _ => [(2, .cells ((fr3 1).x) 72 [.int .u32 c2_0_3, .int .u32 (IntKind.u32.wrap (c2_1_1 + y133)), .int .u32 (IntKind.u32.wrap (c2_2_1 + (IntKind.u32.wrap ((a1.size : Nat) : Int))))])]) (RunsTo.mk [(2, { act := .load 2 0 0 [] }), (6, { act := .store 0 0 [], key := some 2 })] [1, 5, 44] [2] (fun _ => [(fr3 1).x = (fr3 1).x, (fr3 1).x = (fr3 1).x, ((.int .u32 (IntKind.u32.wrap (c2_1_1 + y133))) : Value).cells.toList.all Value.oneCell' = true]) (fun _ => by kernel_rfl) (fun _ => ⟨rfl, rfl, rfl, trivial⟩)) ?_
              intro _
              refine GS.inBlock ?_
              refine GS.rekey (env' := [(1, .string v1_1), (5, .pointer (some ⟨(fr3 1).x, 0, none⟩)), (44, .int .i64 1)]) (mem' := [(2, .cells ((fr3 1).x) 72 [.int .u32 c2_0_3, .int .u32 (IntKind.u32.wrap (c2_1_1 + y133)), .int .u32 (IntKind.u32.wrap (c2_2_1 + (IntKind.u32.wrap ((a1.size : Nat) : Int))))])]) [1, 5, 44] [(2, 2)] (by kernel_rfl) (by kernel_rfl) rfl ?_
              exact H141 (IntKind.u32.wrap (c2_1_1 + y133)) hm
            · replace hm := br_f h130 hm
              refine GS.skip ?_
              refine GS.inBlock ?_
              refine GS.rekey (env' := [(1, .string v1_1), (5, .pointer (some ⟨(fr3 1).x, 0, none⟩)), (44, .int .i64 1)]) (mem' := [(2, .cells ((fr3 1).x) 72 [.int .u32 c2_0_3, .int .u32 c2_1_1, .int .u32 (IntKind.u32.wrap (c2_2_1 + (IntKind.u32.wrap ((a1.size : Nat) : Int))))])]) [1, 5, 44] [(2, 2)] (by kernel_rfl) (by kernel_rfl) rfl ?_
              exact H141 c2_1_1 hm
          · rintro c2_1_5 hm
            replace hm := (hJ142 _).symm.trans hm
            try dsimp only at hm
            refine GS.region (env' := fun _ => [(1, .string v1_1), (5, .pointer (some ⟨(fr3 1).x, 0, none⟩)), (44, .int .i64 2)]) (mem' := fun _ => [(2, .cells ((fr3 1).x) 72 [.int .u32 c2_0_3, .int .u32 c2_1_5, .int .u32 (IntKind.u32.wrap (c2_2_1 + (IntKind.u32.wrap ((a1.size : Nat) : Int))))])]) (RunsTo.mk [] [1, 5, 44] [2] (fun _ => []) (fun _ => by kernel_rfl) (fun _ => trivial)) ?_
            intro _
            refine GS.inLoop ?_
            refine GS.seq ?_
            refine GS.region (env' := fun _ => [(1, .string v1_1), (5, .pointer (some ⟨(fr3 1).x, 0, none⟩)), (44, .int .i64 2), (45, .bool true)]) (mem' := fun _ => [(2, .cells ((fr3 1).x) 72 [.int .u32 c2_0_3, .int .u32 c2_1_5, .int .u32 (IntKind.u32.wrap (c2_2_1 + (IntKind.u32.wrap ((a1.size : Nat) : Int))))])]) (RunsTo.mk [] [1, 5, 44, 45] [2] (fun _ => []) (fun _ => by kernel_rfl) (fun _ => trivial)) ?_
            intro _
            refine GS.seq ?_
            refine GS.cond (t := true) rfl rfl (fun _ => ?_) (fun hf => by cases hf)
            refine GS.skip ?_
            refine GS.seq ?_
            refine GS.block ?_
            refine GS.seq ?_
            refine GS.region (env' := fun _ => [(1, .string v1_1), (5, .pointer (some ⟨(fr3 1).x, 0, none⟩)), (8, .int .i64 2), (44, .int .i64 2)]) (mem' := fun _ => [(2, .cells ((fr3 1).x) 72 [.int .u32 c2_0_3, .int .u32 c2_1_5, .int .u32 (IntKind.u32.wrap (c2_2_1 + (IntKind.u32.wrap ((a1.size : Nat) : Int))))])]) (RunsTo.mk [] [1, 5, 8, 44] [2] (fun _ => []) (fun _ => by kernel_rfl) (fun _ => trivial)) ?_
            intro _
            refine GS.seq ?_
            refine GS.region (env' := fun _ => [(1, .string v1_1), (5, .pointer (some ⟨(fr3 1).x, 0, none⟩)), (8, .int .i64 2), (44, .int .i64 2), (51, .bool (decide (((v1_1.size : Nat) : Int) > 8)))]) (mem' := fun _ => [(2, .cells ((fr3 1).x) 72 [.int .u32 c2_0_3, .int .u32 c2_1_5, .int .u32 (IntKind.u32.wrap (c2_2_1 + (IntKind.u32.wrap ((a1.size : Nat) : Int))))])]) (RunsTo.mk [] [1, 5, 8, 44, 51] [2] (fun _ => []) (fun _ => by kernel_rfl) (fun _ => trivial)) ?_
            intro _
            refine GS.cond (t := decide (((v1_1.size : Nat) : Int) > 8)) rfl rfl (fun h147 => ?_) (fun h147 => ?_)
            · replace hm := br_t h147 hm
              refine GS.seq ?_
              refine grd_elim hm (fun g149 hm => ?_)
              refine bnd_elim hm (fun y150 e151 hm => ?_)
              refine GS.region (env' := fun _ => [(1, .string v1_1), (5, .pointer (some ⟨(fr3 1).x, 0, none⟩)), (8, .int .i64 2), (9, .int .u32 y150), (44, .int .i64 2)]) (mem' := fun _ => [(2, .cells ((fr3 1).x) 72 [.int .u32 c2_0_3, .int .u32 c2_1_5, .int .u32 (IntKind.u32.wrap (c2_2_1 + (IntKind.u32.wrap ((a1.size : Nat) : Int))))])]) (RunsTo.mk [(3, { act := .cut 8 v1_1.size 0 }), (4, { act := .call [] (.int .u32 y150) })] [1, 5, 8, 9, 44] [2] (fun _ => [8 = ((8 : Nat) : Int), v1_1.size = v1_1.size, 8 ≤ v1_1.size, v1_1.size ≤ v1_1.size, CallOK Try.prog 36 #[.string (v1_1.extract 8 v1_1.size)] (.int .u32 y150) []]) (fun _ => by kernel_rfl) (fun _ => ⟨rfl, rfl, g149, (Nat.le_refl _), (w_digest_word F (v1_1.extract 8 v1_1.size) e151).ok trivial, trivial⟩)) ?_
              intro _
              refine GS.seq ?_
              refine GS.seq ?_
              refine GS.region (env' := fun _ => [(1, .string v1_1), (5, .pointer (some ⟨(fr3 1).x, 0, none⟩)), (8, .int .i64 2), (9, .int .u32 y150), (44, .int .i64 2), (58, .bool true)]) (mem' := fun _ => [(2, .cells ((fr3 1).x) 72 [.int .u32 c2_0_3, .int .u32 c2_1_5, .int .u32 (IntKind.u32.wrap (c2_2_1 + (IntKind.u32.wrap ((a1.size : Nat) : Int))))])]) (RunsTo.mk [] [1, 5, 8, 9, 44, 58] [2] (fun _ => []) (fun _ => by kernel_rfl) (fun _ => trivial)) ?_
              intro _
              refine GS.cond (t := true) rfl rfl (fun _ => ?_) (fun hf => by cases hf)
              refine GS.region (env' := fun _ => [(1, .string v1_1), (5, .pointer (some ⟨(fr3 1).x, 0, none⟩)), (8, .int .i64 2), (9, .int .u32 (IntKind.u32.wrap (y150 * 2 ^ 8))), (44, .int .i64 2)]) (mem' := fun _ => [(2, .cells ((fr3 1).x) 72 [.int .u32 c2_0_3, .int .u32 c2_1_5, .int .u32 (IntKind.u32.wrap (c2_2_1 + (IntKind.u32.wrap ((a1.size : Nat) : Int))))])]) (RunsTo.mk [] [1, 5, 8, 9, 44] [2] (fun _ => []) (fun _ => by kernel_rfl) (fun _ => trivial)) ?_
              intro _
              refine GS.region (env' := fun _ => [(1, .string v1_1), (5, .pointer (some ⟨(fr3 1).x, 0, none⟩)), (44, .int .i64 2)]) (mem' := fun _ => [(2, .cells ((fr3 1).x) 72 [.int .u32 c2_0_3, .int .u32 c2_1_5, .int .u32 (IntKind.u32.wrap ((IntKind.u32.wrap (c2_2_1 + (IntKind.u32.wrap ((a1.size : Nat) : Int)))) + (IntKind.u32.wrap (y150 * 2 ^ 8))))])]) (RunsTo.mk [(2, { act := .load 2 0 0 [] }), (6, { act := .store 0 0 [], key := some 2 })] [1, 5, 44] [2] (fun _ => [(fr3 1).x = (fr3 1).x, (fr3 1).x = (fr3 1).x, ((.int .u32 (IntKind.u32.wrap ((IntKind.u32.wrap (c2_2_1 + (IntKind.u32.wrap ((a1.size : Nat) : Int)))) + (IntKind.u32.wrap (y150 * 2 ^ 8))))) : Value).cells.toList.all Value.oneCell' = true]) (fun _ => by kernel_rfl) (fun _ => ⟨rfl, rfl, rfl, trivial⟩)) ?_
              intro _
              refine GS.inBlock ?_
              refine GS.region (env' := fun _ => [(1, .string v1_1), (5, .pointer (some ⟨(fr3 1).x, 0, none⟩)), (44, .int .i64 3)]) (mem' := fun _ => [(2, .cells ((fr3 1).x) 72 [.int .u32 c2_0_3, .int .u32 c2_1_5, .int .u32 (IntKind.u32.wrap ((IntKind.u32.wrap (c2_2_1 + (IntKind.u32.wrap ((a1.size : Nat) : Int)))) + (IntKind.u32.wrap (y150 * 2 ^ 8))))])]) (RunsTo.mk [] [1, 5, 44] [2] (fun _ => []) (fun _ => by kernel_rfl) (fun _ => trivial)) ?_
              intro _
              refine GS.inLoop ?_
              refine GS.seq ?_
              refine GS.region (env' := fun _ => [(1, .string v1_1), (5, .pointer (some ⟨(fr3 1).x, 0, none⟩)), (44, .int .i64 3), (45, .bool false)]) (mem' := fun _ => [(2, .cells ((fr3 1).x) 72 [.int .u32 c2_0_3, .int .u32 c2_1_5, .int .u32 (IntKind.u32.wrap ((IntKind.u32.wrap (c2_2_1 + (IntKind.u32.wrap ((a1.size : Nat) : Int)))) + (IntKind.u32.wrap (y150 * 2 ^ 8))))])]) (RunsTo.mk [] [1, 5, 44, 45] [2] (fun _ => []) (fun _ => by kernel_rfl) (fun _ => trivial)) ?_
              intro _
              refine GS.seq ?_
              refine GS.cond (t := false) rfl rfl (fun hf => by cases hf) (fun _ => ?_)
              refine GS.exit rfl ?_
              refine GS.rekey (env' := [(5, .pointer (some ⟨(fr3 1).x, 0, none⟩))]) (mem' := [(2, .cells ((fr3 1).x) 72 [.int .u32 c2_0_3, .int .u32 c2_1_5, .int .u32 (IntKind.u32.wrap ((IntKind.u32.wrap (c2_2_1 + (IntKind.u32.wrap ((a1.size : Nat) : Int)))) + (IntKind.u32.wrap (y150 * 2 ^ 8))))])]) [5] [(2, 2)] (by kernel_rfl) (by kernel_rfl) rfl ?_
              exact H168 ⟨c2_0_3, c2_1_5, (IntKind.u32.wrap ((IntKind.u32.wrap (c2_2_1 + (IntKind.u32.wrap ((a1.size : Nat) : Int)))) + (IntKind.u32.wrap (y150 * 2 ^ 8))))⟩ hm
            · replace hm := br_f h147 hm
              refine GS.skip ?_
              refine GS.inBlock ?_
              refine GS.region (env' := fun _ => [(1, .string v1_1), (5, .pointer (some ⟨(fr3 1).x, 0, none⟩)), (44, .int .i64 3)]) (mem' := fun _ => [(2, .cells ((fr3 1).x) 72 [.int .u32 c2_0_3, .int .u32 c2_1_5, .int .u32 (IntKind.u32.wrap (c2_2_1 + (IntKind.u32.wrap ((a1.size : Nat) : Int))))])]) (RunsTo.mk [] [1, 5, 44] [2] (fun _ => []) (fun _ => by kernel_rfl) (fun _ => trivial)) ?_
              intro _
              refine GS.inLoop ?_
              refine GS.seq ?_
              refine GS.region (env' := fun _ => [(1, .string v1_1), (5, .pointer (some ⟨(fr3 1).x, 0, none⟩)), (44, .int .i64 3), (45, .bool false)]) (mem' := fun _ => [(2, .cells ((fr3 1).x) 72 [.int .u32 c2_0_3, .int .u32 c2_1_5, .int .u32 (IntKind.u32.wrap (c2_2_1 + (IntKind.u32.wrap ((a1.size : Nat) : Int))))])]) (RunsTo.mk [] [1, 5, 44, 45] [2] (fun _ => []) (fun _ => by kernel_rfl) (fun _ => trivial)) ?_
              intro _
              refine GS.seq ?_
              refine GS.cond (t := false) rfl rfl (fun hf => by cases hf) (fun _ => ?_)
              refine GS.exit rfl ?_
              refine GS.rekey (env' := [(5, .pointer (some ⟨(fr3 1).x, 0, none⟩))]) (mem' := [(2, .cells ((fr3 1).x) 72 [.int .u32 c2_0_3, .int .u32 c2_1_5, .int .u32 (IntKind.u32.wrap (c2_2_1 + (IntKind.u32.wrap ((a1.size : Nat) : Int))))])]) [5] [(2, 2)] (by kernel_rfl) (by kernel_rfl) rfl ?_
              exact H168 ⟨c2_0_3, c2_1_5, (IntKind.u32.wrap (c2_2_1 + (IntKind.u32.wrap ((a1.size : Nat) : Int))))⟩ hm
      · rintro ⟨c2_0_8, c2_1_8, c2_2_8⟩ hm
        replace hm := (hJ169 _).symm.trans hm
        try dsimp only at hm
        refine GS.seq ?_
        refine bnd_elim hm (fun y171 e172 hm => ?_)
        refine GS.open_ ?_
        refine GR.callG (X := Unit) (i := 0) (g := 37) (args := #[.pointer (some ⟨(fr3 1).x, 0, none⟩)]) (v := fun (_ : Unit) => .tuple #[]) (own := [.cells ((fr3 1).x) 72 [.int .u32 c2_0_8, .int .u32 c2_1_8, .int .u32 c2_2_8]]) (ro := []) (es' := fun (_ : Unit) => [.cells ((fr3 1).x) 72 [.int .u32 y171.1, .int .u32 y171.2.1, .int .u32 y171.2.2]]) (mem' := fun (_ : Unit) => [(2, .cells ((fr3 1).x) 72 [.int .u32 y171.1, .int .u32 y171.2.1, .int .u32 y171.2.2])]) (env' := fun (_ : Unit) => [(5, .pointer (some ⟨(fr3 1).x, 0, none⟩))]) [2] [2] [5] [2] false (by kernel_rfl) (by kernel_rfl) (by kernel_rfl) (by kernel_rfl) (by kernel_rfl) (fun _ => rfl) (fun _ _ => rfl) trivial (by rintro _; kernel_rfl) (by rintro _; kernel_rfl) (w___digest_trio__mix F (fr3 1).x c2_0_8 c2_1_8 c2_2_8 e172) ?_
        rintro _
        refine GR.done (Nat.le_of_ble_eq_true (by kernel_rfl)) ?_
        refine GS.seq ?_
        refine GS.region (env' := fun _ => [(4, .int .u32 y171.2.2)]) (mem' := fun _ => []) (RunsTo.mk [(1, { act := .load 2 0 0 [] })] [4] [] (fun _ => [(fr3 1).x = (fr3 1).x]) (fun _ => by kernel_rfl) (fun _ => ⟨rfl, trivial⟩)) ?_
        intro _
        have hy := Option.some.inj hm
        subst hy
        refine GS.ret (fn := Try.f19) [0] [.int .u32 y171.2.2] [] rfl Try.func19 (by kernel_rfl) trivial (fun w' hs => ?_)
        exact ⟨(), rfl, hs.turnedG (ks := []) rfl rfl⟩

theorem w_tholeref01_four (F : Nat) (a0 : ByteArray) (a1 : Int) {y : Int} (hm : m_tholeref01_four F a0 a1 = some y) : CallG Try.prog 39 #[.string a0, .int .u64 a1] (X := Unit) (fun (_ : Unit) => .int .u32 y) [] [] (fun (_ : Unit) => []) := by
  intro w hg
  rw [m_tholeref01_four] at hm
  refine GS.start (S := mayT [] []) (mem := []) Try.func39 rfl Try.ntmps39 (Nat.le_of_ble_eq_true rfl) (hg.start rfl) ?_
  refine GS.conv (env' := [(0, .string a0), (1, .int .u64 a1)]) rfl rfl ?_
  refine GS.seq ?_
  refine GS.region (env' := fun _ => [(0, .string a0), (1, .int .u64 a1)]) (mem' := fun _ => []) (RunsTo.mk [] [0, 1] [] (fun _ => []) (fun _ => by kernel_rfl) (fun _ => trivial)) ?_
  intro _
  refine GS.seq ?_
  refine GS.region (env' := fun _ => [(0, .string a0), (1, .int .u64 a1), (5, .int .u32 0)]) (mem' := fun _ => []) (RunsTo.mk [] [0, 1, 5] [] (fun _ => []) (fun _ => by kernel_rfl) (fun _ => trivial)) ?_
  intro _
  refine GS.seq ?_
  refine GS.seq ?_
  refine GS.region (env' := fun _ => [(0, .string a0), (1, .int .u64 a1), (5, .int .u32 0), (6, .int .i64 0)]) (mem' := fun _ => []) (RunsTo.mk [] [0, 1, 5, 6] [] (fun _ => []) (fun _ => by kernel_rfl) (fun _ => trivial)) ?_
  intro _
  refine GS.block ?_
  refine GS.loop ?_
  refine grd_elim hm (fun g23 hm => ?_)
  refine GS.rekey (env' := [(0, .string a0), (1, .int .u64 a1), (5, .int .u32 0), (6, .int .i64 0)]) (mem' := []) [0, 1, 5, 6] [] (by kernel_rfl) (by kernel_rfl) rfl ?_
  refine loopC_elim hm (fun st38 fn39 hst40 hfn41 hm => ?_)
  refine GS.loopInv (ι := Nat × Int × Nat) (I := fun ⟨rs36, v5_1, v6_1⟩ => ((((a0.size : Nat) : Int)) - ((v6_1 : Nat) : Int) : Int).toNat = rs36 ∧ loopC st38 fn39 rs36 v6_1 v5_1 = some y) (μ := fun ⟨rs36, v5_1, v6_1⟩ => rs36) (E := fun ⟨rs36, v5_1, v6_1⟩ => [(0, .string a0), (1, .int .u64 a1), (5, .int .u32 v5_1), (6, .int .i64 ((v6_1 : Nat) : Int))]) (M := fun ⟨rs36, v5_1, v6_1⟩ => []) ?_ ⟨(Int.toNat (((a0.size : Nat) : Int) - ((0 : Nat) : Int))), 0, 0⟩ ⟨rfl, hm⟩
  rintro ⟨rs36, v5_1, v6_1⟩ ⟨hd22, hm⟩ ih37
  cases rs36 with
  | zero =>
    replace hm := (hfn41 _ _).symm.trans hm
    try dsimp only at hm
    refine GS.seq ?_
    refine GS.seq ?_
    refine GS.region (env' := fun _ => [(0, .string a0), (1, .int .u64 a1), (5, .int .u32 v5_1), (6, .int .i64 ((v6_1 : Nat) : Int)), (10, .bool (decide (((v6_1 : Nat) : Int) < ((a0.size : Nat) : Int))))]) (mem' := fun _ => []) (RunsTo.mk [] [0, 1, 5, 6, 10] [] (fun _ => []) (fun _ => by kernel_rfl) (fun _ => trivial)) ?_
    intro _
    refine GS.cond (t := decide (((v6_1 : Nat) : Int) < ((a0.size : Nat) : Int))) rfl rfl (fun h34 => absb h34 (cnt0 hd22)) (fun _ => ?_)
    refine GS.exit rfl ?_
    refine GS.seq ?_
    refine GS.region (env' := fun _ => [(4, .int .u32 v5_1)]) (mem' := fun _ => []) (RunsTo.mk [] [4] [] (fun _ => []) (fun _ => by kernel_rfl) (fun _ => trivial)) ?_
    intro _
    have hy := Option.some.inj hm
    subst hy
    refine GS.ret (fn := Try.f39) [0] [.int .u32 v5_1] [] rfl Try.func39 (by kernel_rfl) trivial (fun w' hs => ?_)
    exact ⟨(), rfl, hs.turnedG (ks := []) rfl rfl⟩
  | succ rs36 =>
    replace hm := (hst40 _ _ _).symm.trans hm
    try dsimp only at hm
    refine GS.seq ?_
    refine GS.seq ?_
    refine GS.region (env' := fun _ => [(0, .string a0), (1, .int .u64 a1), (5, .int .u32 v5_1), (6, .int .i64 ((v6_1 : Nat) : Int)), (10, .bool (decide (((v6_1 : Nat) : Int) < ((a0.size : Nat) : Int))))]) (mem' := fun _ => []) (RunsTo.mk [] [0, 1, 5, 6, 10] [] (fun _ => []) (fun _ => by kernel_rfl) (fun _ => trivial)) ?_
    intro _
    refine GS.cond (t := decide (((v6_1 : Nat) : Int) < ((a0.size : Nat) : Int))) rfl rfl (fun _ => ?_) (fun h25 => absb (cnt1 hd22) h25)
    refine GS.skip ?_
    refine GS.seq ?_
    refine GS.block ?_
    refine grd_elim hm (fun g27 hm => ?_)
    refine grd_elim hm (fun g28 hm => ?_)
    refine grd_elim hm (fun g29 hm => ?_)
    refine GS.region (env' := fun _ => [(0, .string a0), (1, .int .u64 a1), (5, .int .u32 (IntKind.u32.wrap (v5_1 + (IntKind.u32.wrap ((IntKind.u32.wrap (((a0.data.getD v6_1 0).toNat : Nat) : Int)) * 2 ^ (min (Int.toNat (IntKind.u64.wrap (a1 + (IntKind.u64.wrap (8 * ((v6_1 : Nat) : Int)))))) 32)))))), (6, .int .i64 ((v6_1 : Nat) : Int))]) (mem' := fun _ => []) (RunsTo.mk [(3, { act := .elt v6_1 }), (7, { sp := some (.int .i64 (8 * ((v6_1 : Nat) : Int))) }), (10, { act := .shift })] [0, 1, 5, 6] [] (fun _ => [(((v6_1 : Nat) : Int) : Int) = ((v6_1 : Nat) : Int), v6_1 < a0.size, ((.int .i64 (IntKind.i64.wrap (8 * ((v6_1 : Nat) : Int)))) : Value) = .int .i64 (8 * ((v6_1 : Nat) : Int)), 0 ≤ (IntKind.u64.wrap (a1 + (IntKind.u64.wrap (8 * ((v6_1 : Nat) : Int)))))]) (fun _ => by kernel_rfl) (fun _ => ⟨rfl, g27, I64.w g28, g29, trivial⟩)) ?_
    intro _
    refine GS.inBlock ?_
    refine bnd_elim hm (fun y30 e31 hm => ?_)
    refine GS.conv (env' := [(0, .string a0), (1, .int .u64 a1), (5, .int .u32 y30), (6, .int .i64 ((v6_1 : Nat) : Int))]) (congrArg (fun vhole : Int => ([(0, .string a0), (1, .int .u64 a1), (5, .int .u32 vhole), (6, .int .i64 ((v6_1 : Nat) : Int))] : List (Nat × Value))) (Option.some.inj e31)) rfl ?_
    refine GS.region (env' := fun _ => [(0, .string a0), (1, .int .u64 a1), (5, .int .u32 y30), (6, .int .i64 ((v6_1 + 1 : Nat) : Int))]) (mem' := fun _ => []) (RunsTo.mk [(1, { sp := some (.int .i64 ((v6_1 + 1 : Nat) : Int)) })] [0, 1, 5, 6] [] (fun _ => [((.int .i64 (IntKind.i64.wrap (((v6_1 : Nat) : Int) + 1))) : Value) = .int .i64 ((v6_1 + 1 : Nat) : Int)]) (fun _ => by kernel_rfl) (fun _ => ⟨natwB (cnt1 hd22) g23, trivial⟩)) ?_
    intro _
    refine GS.inLoop ?_
    refine GS.rekey (env' := [(0, .string a0), (1, .int .u64 a1), (5, .int .u32 y30), (6, .int .i64 ((v6_1 + 1 : Nat) : Int))]) (mem' := []) [0, 1, 5, 6] [] (by kernel_rfl) (by kernel_rfl) rfl ?_
    exact ih37 ⟨rs36, y30, v6_1 + 1⟩ ⟨cntN hd22, hm⟩ (Nat.lt_succ_self _)

theorem w_tholeref01_cut (F : Nat) (a0 : ByteArray) (a1 : Int) {y : ByteArray × ByteArray} (hm : m_tholeref01_cut F a0 a1 = some y) : CallG Try.prog 40 #[.string a0, .int .i64 a1] (X := Unit) (fun (_ : Unit) => .tuple #[.string y.1, .string y.2]) [] [] (fun (_ : Unit) => []) := by
  intro w hg
  rw [m_tholeref01_cut] at hm
  refine GS.start (S := mayT [] []) (mem := []) Try.func40 rfl Try.ntmps40 (Nat.le_of_ble_eq_true rfl) (hg.start rfl) ?_
  refine GS.conv (env' := [(0, .string a0), (1, .int .i64 a1)]) rfl rfl ?_
  refine GS.seq ?_
  refine GS.region (env' := fun _ => [(0, .string a0), (1, .int .i64 a1)]) (mem' := fun _ => []) (RunsTo.mk [] [0, 1] [] (fun _ => []) (fun _ => by kernel_rfl) (fun _ => trivial)) ?_
  intro _
  refine GS.seq ?_
  refine GS.seq ?_
  refine GS.region (env' := fun _ => [(0, .string a0), (1, .int .i64 a1), (9, .bool (decide (a1 > ((a0.size : Nat) : Int))))]) (mem' := fun _ => []) (RunsTo.mk [] [0, 1, 9] [] (fun _ => []) (fun _ => by kernel_rfl) (fun _ => trivial)) ?_
  intro _
  refine jn_elim hm (fun J5 hJ7 hm => ?_)
  refine GS.cut (ι := Int) (I := fun (v1_1 : Int) => J5 v1_1 = some y) (E := fun (v1_1 : Int) => [(0, .string a0), (1, .int .i64 v1_1)]) (M := fun (v1_1 : Int) => []) ?_ ?_
  rotate_left
  · intro H6
    refine GS.cond (t := decide (a1 > ((a0.size : Nat) : Int))) rfl rfl (fun h3 => ?_) (fun h3 => ?_)
    · replace hm := br_t h3 hm
      refine GS.region (env' := fun _ => [(0, .string a0), (1, .int .i64 ((a0.size : Nat) : Int))]) (mem' := fun _ => []) (RunsTo.mk [] [0, 1] [] (fun _ => []) (fun _ => by kernel_rfl) (fun _ => trivial)) ?_
      intro _
      refine GS.rekey (env' := [(0, .string a0), (1, .int .i64 ((a0.size : Nat) : Int))]) (mem' := []) [0, 1] [] (by kernel_rfl) (by kernel_rfl) rfl ?_
      exact H6 ((a0.size : Nat) : Int) hm
    · replace hm := br_f h3 hm
      refine GS.skip ?_
      refine GS.rekey (env' := [(0, .string a0), (1, .int .i64 a1)]) (mem' := []) [0, 1] [] (by kernel_rfl) (by kernel_rfl) rfl ?_
      exact H6 a1 hm
  · rintro v1_1 hm
    replace hm := (hJ7 _).symm.trans hm
    try dsimp only at hm
    refine GS.seq ?_
    refine grd_elim hm (fun g9 hm => ?_)
    refine GS.region (env' := fun _ => [(4, .string (a0.extract 0 (Int.toNat v1_1))), (5, .string (a0.extract (Int.toNat v1_1) a0.size))]) (mem' := fun _ => []) (RunsTo.mkd [(2, { act := .cut 0 (Int.toNat v1_1) 0 }), (5, { act := .cut (Int.toNat v1_1) a0.size 0 })] [4, 5] [] (fun _ => [0 = 0, v1_1 = (((Int.toNat v1_1) : Nat) : Int), 0 ≤ (Int.toNat v1_1), (Int.toNat v1_1) ≤ a0.size, v1_1 = (((Int.toNat v1_1) : Nat) : Int), a0.size = a0.size, (Int.toNat v1_1) ≤ a0.size, a0.size ≤ a0.size]) (by kernel_rfl) (by kernel_rfl) (fun _ => by kernel_rfl) (fun _ => ⟨rfl, g9.eq, (Nat.zero_le _), g9.2, g9.eq, rfl, g9.2, (Nat.le_refl _), trivial⟩)) ?_
    intro _
    have hy := Option.some.inj hm
    subst hy
    refine GS.ret (fn := Try.f40) [0, 0] [.string (a0.extract 0 (Int.toNat v1_1)), .string (a0.extract (Int.toNat v1_1) a0.size)] [] rfl Try.func40 (by kernel_rfl) trivial (fun w' hs => ?_)
    exact ⟨(), rfl, hs.turnedG (ks := []) rfl rfl⟩

theorem w_tholeref01_Name (F : Nat) (a0 : ByteArray) {y : Int} (hm : m_tholeref01_Name F a0 = some y) : CallG Try.prog 20 #[.string a0] (X := Unit) (fun (_ : Unit) => .int .u32 y) [] [] (fun (_ : Unit) => []) := by
  intro w hg
  rw [m_tholeref01_Name] at hm
  refine GS.start (S := mayT [] []) (mem := []) Try.func20 rfl Try.ntmps20 (Nat.le_of_ble_eq_true rfl) (hg.start rfl) ?_
  refine GS.conv (env' := [(0, .string a0)]) rfl rfl ?_
  refine GS.seq ?_
  refine GS.region (env' := fun _ => [(0, .string a0)]) (mem' := fun _ => []) (RunsTo.mk [] [0] [] (fun _ => []) (fun _ => by kernel_rfl) (fun _ => trivial)) ?_
  intro _
  refine GS.seq ?_
  refine GS.region (env' := fun fr2 => [(0, .string a0), (3, .pointer (some ⟨(fr2 1).x, 0, none⟩))]) (mem' := fun fr2 => [(1, .cells ((fr2 1).x) 74 [.int .u32 2654435769, .int .u32 2654435769, .int .u32 0])]) (RunsTo.mk [(1, { act := .new .var, key := some 1 }), (2, { act := .store 0 0 [], key := some 1 })] [0, 3] [1] (fun fr2 => [(fr2 1).x = (fr2 1).x, ((.agg #[.int .u32 2654435769, .int .u32 2654435769, .int .u32 0]) : Value).cells.toList.all Value.oneCell' = true]) (fun fr2 => by kernel_rfl) (fun fr2 => ⟨rfl, rfl, trivial⟩)) ?_
  intro fr2
  refine GS.seq ?_
  refine GS.region (env' := fun _ => [(0, .string a0), (3, .pointer (some ⟨(fr2 1).x, 0, none⟩)), (4, .int .u32 (IntKind.u32.wrap ((a0.size : Nat) : Int)))]) (mem' := fun _ => [(1, .cells ((fr2 1).x) 74 [.int .u32 2654435769, .int .u32 2654435769, .int .u32 0])]) (RunsTo.mk [] [0, 3, 4] [1] (fun _ => []) (fun _ => by kernel_rfl) (fun _ => trivial)) ?_
  intro _
  refine GS.seq ?_
  refine GS.block ?_
  refine GS.loop ?_
  refine GS.rekey (env' := [(0, .string a0), (3, .pointer (some ⟨(fr2 1).x, 0, none⟩)), (4, .int .u32 (IntKind.u32.wrap ((a0.size : Nat) : Int)))]) (mem' := [(1, .cells ((fr2 1).x) 74 [.int .u32 2654435769, .int .u32 2654435769, .int .u32 0])]) [0, 3, 4] [(1, 1)] (by kernel_rfl) (by kernel_rfl) rfl ?_
  refine loopW_elim hm (fun st59 hst61 hm => ?_)
  refine GS.loopInv (ι := Nat × ByteArray × Int × Int × Int) (I := fun ⟨rs57, v0_1, c1_0_1, c1_1_1, c1_2_1⟩ => loopW st59 rs57 (v0_1, c1_0_1, c1_1_1, c1_2_1) = some y) (μ := fun ⟨rs57, v0_1, c1_0_1, c1_1_1, c1_2_1⟩ => rs57) (E := fun ⟨rs57, v0_1, c1_0_1, c1_1_1, c1_2_1⟩ => [(0, .string v0_1), (3, .pointer (some ⟨(fr2 1).x, 0, none⟩)), (4, .int .u32 (IntKind.u32.wrap ((a0.size : Nat) : Int)))]) (M := fun ⟨rs57, v0_1, c1_0_1, c1_1_1, c1_2_1⟩ => [(1, .cells ((fr2 1).x) 74 [.int .u32 c1_0_1, .int .u32 c1_1_1, .int .u32 c1_2_1])]) ?_ ⟨F, a0, 2654435769, 2654435769, 0⟩ hm
  rintro ⟨rs57, v0_1, c1_0_1, c1_1_1, c1_2_1⟩ hm ih58
  cases rs57 with
  | zero => cases hm
  | succ rs57 =>
    replace hm := (hst61 _ _).symm.trans hm
    try dsimp only at hm
    refine GS.seq ?_
    refine GS.seq ?_
    refine GS.region (env' := fun _ => [(0, .string v0_1), (3, .pointer (some ⟨(fr2 1).x, 0, none⟩)), (4, .int .u32 (IntKind.u32.wrap ((a0.size : Nat) : Int))), (13, .bool (decide (((v0_1.size : Nat) : Int) ≥ 12)))]) (mem' := fun _ => [(1, .cells ((fr2 1).x) 74 [.int .u32 c1_0_1, .int .u32 c1_1_1, .int .u32 c1_2_1])]) (RunsTo.mk [] [0, 3, 4, 13] [1] (fun _ => []) (fun _ => by kernel_rfl) (fun _ => trivial)) ?_
    intro _
    refine GS.cond (t := decide (((v0_1.size : Nat) : Int) ≥ 12)) rfl rfl (fun h40 => ?_) (fun h40 => ?_)
    · replace hm := br_t h40 hm
      refine GS.skip ?_
      refine GS.block ?_
      refine GS.seq ?_
      refine grd_elim hm (fun g42 hm => ?_)
      refine bnd_elim hm (fun y43 e44 hm => ?_)
      refine grd_elim hm (fun g45 hm => ?_)
      refine grd_elim hm (fun g46 hm => ?_)
      refine bnd_elim hm (fun y47 e48 hm => ?_)
      refine grd_elim hm (fun g49 hm => ?_)
      refine grd_elim hm (fun g50 hm => ?_)
      refine bnd_elim hm (fun y51 e52 hm => ?_)
      refine bnd_elim hm (fun y53 e54 hm => ?_)
      refine GS.region (env' := fun _ => [(0, .string v0_1), (3, .pointer (some ⟨(fr2 1).x, 0, none⟩)), (4, .int .u32 (IntKind.u32.wrap ((a0.size : Nat) : Int)))]) (mem' := fun _ => [(1, .cells ((fr2 1).x) 74 [.int .u32 y53.A, .int .u32 y53.B, .int .u32 y53.C])]) (RunsTo.mkd [(1, { act := .load 1 0 0 [] }), (3, { act := .cut 0 4 0 }), (4, { act := .call [] (.int .u32 y43) }), (7, { act := .load 1 0 0 [] }), (9, { act := .cut 4 8 0 }), (10, { act := .call [] (.int .u32 y47) }), (13, { act := .load 1 0 0 [] }), (15, { act := .cut 8 12 0 }), (16, { act := .call [] (.int .u32 y51) }), (19, { act := .call [] (.agg #[.int .u32 y53.A, .int .u32 y53.B, .int .u32 y53.C]) }), (20, { act := .store 0 0 [], key := some 1 })] [0, 3, 4] [1] (fun _ => [(fr2 1).x = (fr2 1).x, 0 = 0, 4 = ((4 : Nat) : Int), 0 ≤ 4, 4 ≤ v0_1.size, CallOK Try.prog 39 #[.string (v0_1.extract 0 4), .int .u64 0] (.int .u32 y43) [], (fr2 1).x = (fr2 1).x, 4 = ((4 : Nat) : Int), 8 = ((8 : Nat) : Int), 4 ≤ 8, 8 ≤ v0_1.size, CallOK Try.prog 39 #[.string (v0_1.extract 4 8), .int .u64 0] (.int .u32 y47) [], (fr2 1).x = (fr2 1).x, 8 = ((8 : Nat) : Int), 12 = ((12 : Nat) : Int), 8 ≤ 12, 12 ≤ v0_1.size, CallOK Try.prog 39 #[.string (v0_1.extract 8 12), .int .u64 0] (.int .u32 y51) [], CallOK Try.prog 38 #[.agg #[.int .u32 (IntKind.u32.wrap (c1_0_1 + y43)), .int .u32 (IntKind.u32.wrap (c1_1_1 + y47)), .int .u32 (IntKind.u32.wrap (c1_2_1 + y51))]] (.agg #[.int .u32 y53.A, .int .u32 y53.B, .int .u32 y53.C]) [], (fr2 1).x = (fr2 1).x, ((.agg #[.int .u32 y53.A, .int .u32 y53.B, .int .u32 y53.C]) : Value).cells.toList.all Value.oneCell' = true]) (by kernel_rfl) (by kernel_rfl) (fun _ => by kernel_rfl) (fun _ => ⟨rfl, rfl, rfl, (Nat.zero_le _), g42, (w_tholeref01_four F (v0_1.extract 0 4) 0 e44).ok trivial, rfl, rfl, rfl, g46, g45, (w_tholeref01_four F (v0_1.extract 4 8) 0 e48).ok trivial, rfl, rfl, rfl, g50, g49, (w_tholeref01_four F (v0_1.extract 8 12) 0 e52).ok trivial, (w_tholeref01_Mix F (S_tholeref01_Three.mk (IntKind.u32.wrap (c1_0_1 + y43)) (IntKind.u32.wrap (c1_1_1 + y47)) (IntKind.u32.wrap (c1_2_1 + y51))) e54).ok trivial, rfl, rfl, trivial⟩)) ?_
      intro _
      refine GS.region (env' := fun _ => [(0, .string (v0_1.extract 12 v0_1.size)), (3, .pointer (some ⟨(fr2 1).x, 0, none⟩)), (4, .int .u32 (IntKind.u32.wrap ((a0.size : Nat) : Int)))]) (mem' := fun _ => [(1, .cells ((fr2 1).x) 74 [.int .u32 y53.A, .int .u32 y53.B, .int .u32 y53.C])]) (RunsTo.mk [(1, { act := .cut 12 v0_1.size 0 })] [0, 3, 4] [1] (fun _ => [12 = ((12 : Nat) : Int), v0_1.size = v0_1.size, 12 ≤ v0_1.size, v0_1.size ≤ v0_1.size]) (fun _ => by kernel_rfl) (fun _ => ⟨rfl, rfl, g49, (Nat.le_refl _), trivial⟩)) ?_
      intro _
      refine GS.inBlock ?_
      refine GS.inLoop ?_
      refine GS.rekey (env' := [(0, .string (v0_1.extract 12 v0_1.size)), (3, .pointer (some ⟨(fr2 1).x, 0, none⟩)), (4, .int .u32 (IntKind.u32.wrap ((a0.size : Nat) : Int)))]) (mem' := [(1, .cells ((fr2 1).x) 74 [.int .u32 y53.A, .int .u32 y53.B, .int .u32 y53.C])]) [0, 3, 4] [(1, 1)] (by kernel_rfl) (by kernel_rfl) rfl ?_
      exact ih58 ⟨rs57, (v0_1.extract 12 v0_1.size), y53.A, y53.B, y53.C⟩ hm (Nat.lt_succ_self _)
    · replace hm := br_f h40 hm
      refine GS.exit rfl ?_
      refine GS.seq ?_
      refine bnd_elim hm (fun y64 e65 hm => ?_)
      refine GS.region (env' := fun _ => [(0, .string y64.2), (3, .pointer (some ⟨(fr2 1).x, 0, none⟩)), (4, .int .u32 (IntKind.u32.wrap ((a0.size : Nat) : Int))), (5, .string y64.1)]) (mem' := fun _ => [(1, .cells ((fr2 1).x) 74 [.int .u32 c1_0_1, .int .u32 c1_1_1, .int .u32 c1_2_1])]) (RunsTo.mk [(1, { act := .call [] (.tuple #[.string y64.1, .string y64.2]) })] [0, 3, 4, 5] [1] (fun _ => [CallOK Try.prog 40 #[.string v0_1, .int .i64 4] (.tuple #[.string y64.1, .string y64.2]) []]) (fun _ => by kernel_rfl) (fun _ => ⟨(w_tholeref01_cut F v0_1 4 e65).ok trivial, trivial⟩)) ?_
      intro _
      refine GS.seq ?_
      refine bnd_elim hm (fun y67 e68 hm => ?_)
      refine GS.region (env' := fun _ => [(0, .string y67.2), (3, .pointer (some ⟨(fr2 1).x, 0, none⟩)), (4, .int .u32 (IntKind.u32.wrap ((a0.size : Nat) : Int))), (5, .string y64.1), (6, .string y67.1)]) (mem' := fun _ => [(1, .cells ((fr2 1).x) 74 [.int .u32 c1_0_1, .int .u32 c1_1_1, .int .u32 c1_2_1])]) (RunsTo.mk [(1, { act := .call [] (.tuple #[.string y67.1, .string y67.2]) })] [0, 3, 4, 5, 6] [1] (fun _ => [CallOK Try.prog 40 #[.string y64.2, .int .i64 4] (.tuple #[.string y67.1, .string y67.2]) []]) (fun _ => by kernel_rfl) (fun _ => ⟨(w_tholeref01_cut F y64.2 4 e68).ok trivial, trivial⟩)) ?_
      intro _
      refine GS.seq ?_
      refine bnd_elim hm (fun y70 e71 hm => ?_)
      refine bnd_elim hm (fun y72 e73 hm => ?_)
      refine bnd_elim hm (fun y74 e75 hm => ?_)
      refine bnd_elim hm (fun y76 e77 hm => ?_)
      refine GS.region (env' := fun _ => [(2, .int .u32 y76.C)]) (mem' := fun _ => []) (RunsTo.mkd [(1, { act := .load 1 0 0 [] }), (3, { act := .call [] (.int .u32 y70) }), (6, { act := .load 1 0 0 [] }), (8, { act := .call [] (.int .u32 y72) }), (11, { act := .load 1 0 0 [] }), (15, { act := .call [] (.int .u32 y74) }), (18, { act := .call [] (.agg #[.int .u32 y76.A, .int .u32 y76.B, .int .u32 y76.C]) })] [2] [] (fun _ => [(fr2 1).x = (fr2 1).x, CallOK Try.prog 39 #[.string y64.1, .int .u64 0] (.int .u32 y70) [], (fr2 1).x = (fr2 1).x, CallOK Try.prog 39 #[.string y67.1, .int .u64 0] (.int .u32 y72) [], (fr2 1).x = (fr2 1).x, CallOK Try.prog 39 #[.string y67.2, .int .u64 8] (.int .u32 y74) [], CallOK Try.prog 38 #[.agg #[.int .u32 (IntKind.u32.wrap (c1_0_1 + y70)), .int .u32 (IntKind.u32.wrap (c1_1_1 + y72)), .int .u32 (IntKind.u32.wrap ((IntKind.u32.wrap (c1_2_1 + (IntKind.u32.wrap ((a0.size : Nat) : Int)))) + y74))]] (.agg #[.int .u32 y76.A, .int .u32 y76.B, .int .u32 y76.C]) []]) (by kernel_rfl) (by kernel_rfl) (fun _ => by kernel_rfl) (fun _ => ⟨rfl, (w_tholeref01_four F y64.1 0 e71).ok trivial, rfl, (w_tholeref01_four F y67.1 0 e73).ok trivial, rfl, (w_tholeref01_four F y67.2 8 e75).ok trivial, (w_tholeref01_Mix F (S_tholeref01_Three.mk (IntKind.u32.wrap (c1_0_1 + y70)) (IntKind.u32.wrap (c1_1_1 + y72)) (IntKind.u32.wrap ((IntKind.u32.wrap (c1_2_1 + (IntKind.u32.wrap ((a0.size : Nat) : Int)))) + y74))) e77).ok trivial, trivial⟩)) ?_
      intro _
      have hy := Option.some.inj hm
      subst hy
      refine GS.ret (fn := Try.f20) [0] [.int .u32 y76.C] [] rfl Try.func20 (by kernel_rfl) trivial (fun w' hs => ?_)
      exact ⟨(), rfl, hs.turnedG (ks := []) rfl rfl⟩

theorem w_tholelaw01_DigestNames (F : Nat) (a0 : ByteArray) {y : Bool} (hm : m_tholelaw01_DigestNames F a0 = some y) : CallG Try.prog 6 #[.string a0] (X := Unit) (fun (_ : Unit) => .bool y) [] [] (fun (_ : Unit) => []) := by
  intro w hg
  rw [m_tholelaw01_DigestNames] at hm
  refine GS.start (S := mayT [] []) (mem := []) Try.func6 rfl Try.ntmps6 (Nat.le_of_ble_eq_true rfl) (hg.start rfl) ?_
  refine GS.conv (env' := [(0, .string a0)]) rfl rfl ?_
  refine GS.seq ?_
  refine GS.region (env' := fun _ => [(0, .string a0)]) (mem' := fun _ => []) (RunsTo.mk [] [0] [] (fun _ => []) (fun _ => by kernel_rfl) (fun _ => trivial)) ?_
  intro _
  refine GS.seq ?_
  refine bnd_elim hm (fun y3 e4 hm => ?_)
  refine GS.open_ ?_
  refine GR.callG (X := Nat) (i := 0) (g := 10) (args := #[]) (v := fun (x5 : Nat) => .pointer (some ⟨x5, 0, none⟩)) (own := []) (ro := []) (es' := fun (x5 : Nat) => [.cells x5 60 (([.int .u32 y3.once.done.v, .int .i32 y3.once.m.mu.state, .int .u32 y3.once.m.mu.sema] : List Value) ++ (aU32 y3.table ++ (([.int .i64 y3.calls.v] : List Value))))]) (mem' := fun (x5 : Nat) => [(1, .cells x5 60 (([.int .u32 y3.once.done.v, .int .i32 y3.once.m.mu.state, .int .u32 y3.once.m.mu.sema] : List Value) ++ (aU32 y3.table ++ (([.int .i64 y3.calls.v] : List Value)))))]) (env' := fun (x5 : Nat) => [(0, .string a0), (4, .pointer (some ⟨x5, 0, none⟩))]) [] [1] [0, 4] [1] false (by kernel_rfl) (by kernel_rfl) (by kernel_rfl) (by kernel_rfl) (by kernel_rfl) (fun _ => rfl) (fun _ _ => rfl) trivial (by rintro x5; kernel_rfl) (by rintro x5; kernel_rfl) (w_digest_New F  e4) ?_
  rintro x5
  refine GR.run (i := 1) 1 (env' := fun _ => [(0, .string a0), (3, .pointer (some ⟨x5, 0, none⟩))]) (mem' := fun _ => [(1, .cells x5 60 (([.int .u32 y3.once.done.v, .int .i32 y3.once.m.mu.state, .int .u32 y3.once.m.mu.sema] : List Value) ++ (aU32 y3.table ++ (([.int .i64 y3.calls.v] : List Value)))))]) (Nat.le_of_ble_eq_true (by kernel_rfl)) (RunsTo.mk [] [0, 3] [1] (fun _ => []) (fun _ => by kernel_rfl) (fun _ => trivial)) ?_
  intro _
  refine GR.done (Nat.le_of_ble_eq_true (by kernel_rfl)) ?_
  refine GS.seq ?_
  refine bnd_elim hm (fun y8 e9 hm => ?_)
  refine bnd_elim hm (fun y10 e11 hm => ?_)
  refine br_elim hm (fun h12 hm => ?_) (fun h12 hm => ?_)
  · skip
    refine bnd_elim hm (fun y13 e14 hm => ?_)
    refine GS.region (env' := fun _ => [(2, .bool y13)]) (mem' := fun _ => []) (RunsTo.mk [(5, { act := .call [1] (.int .u32 y8) }), (7, { act := .call [] (.int .u32 y10) }), (10, { sp := some (.bool true) }), (11, { act := .call [] (.bool y13) })] [2] [] (fun _ => [CallOK Try.prog 19 #[.pointer (some ⟨x5, 0, none⟩), .string a0] (.int .u32 y8) [some (.cells x5 60 (([.int .u32 y3.once.done.v, .int .i32 y3.once.m.mu.state, .int .u32 y3.once.m.mu.sema] : List Value) ++ (aU32 y3.table ++ (([.int .i64 y3.calls.v] : List Value)))))], CallOK Try.prog 20 #[.string a0] (.int .u32 y10) [], ((.bool (y8 == y10)) : Value) = .bool true, CallOK Try.prog 11 #[] (.bool y13) []]) (fun _ => by kernel_rfl) (fun _ => ⟨(w___digest_Engine__Name F x5 y3 a0 e9).ok ⟨(.inl ⟨.cells x5 60 (([.int .u32 y3.once.done.v, .int .i32 y3.once.m.mu.state, .int .u32 y3.once.m.mu.sema] : List Value) ++ (aU32 y3.table ++ (([.int .i64 y3.calls.v] : List Value)))), .head _, Cov.cells_rd⟩), trivial⟩, (w_tholeref01_Name F a0 e11).ok trivial, bool_eq h12, (w_tholelaw01_lives F  e14).ok trivial, trivial⟩)) ?_
    intro _
    have hy := Option.some.inj hm
    subst hy
    refine GS.ret (fn := Try.f6) [0] [.bool y13] [] rfl Try.func6 (by kernel_rfl) trivial (fun w' hs => ?_)
    exact ⟨(), rfl, hs.turnedG (ks := []) rfl rfl⟩
  · skip
    refine GS.region (env' := fun _ => [(2, .bool false)]) (mem' := fun _ => []) (RunsTo.mk [(5, { act := .call [1] (.int .u32 y8) }), (7, { act := .call [] (.int .u32 y10) }), (10, { sp := some (.bool false) })] [2] [] (fun _ => [CallOK Try.prog 19 #[.pointer (some ⟨x5, 0, none⟩), .string a0] (.int .u32 y8) [some (.cells x5 60 (([.int .u32 y3.once.done.v, .int .i32 y3.once.m.mu.state, .int .u32 y3.once.m.mu.sema] : List Value) ++ (aU32 y3.table ++ (([.int .i64 y3.calls.v] : List Value)))))], CallOK Try.prog 20 #[.string a0] (.int .u32 y10) [], ((.bool (y8 == y10)) : Value) = .bool false]) (fun _ => by kernel_rfl) (fun _ => ⟨(w___digest_Engine__Name F x5 y3 a0 e9).ok ⟨(.inl ⟨.cells x5 60 (([.int .u32 y3.once.done.v, .int .i32 y3.once.m.mu.state, .int .u32 y3.once.m.mu.sema] : List Value) ++ (aU32 y3.table ++ (([.int .i64 y3.calls.v] : List Value)))), .head _, Cov.cells_rd⟩), trivial⟩, (w_tholeref01_Name F a0 e11).ok trivial, bool_eq h12, trivial⟩)) ?_
    intro _
    have hy := Option.some.inj hm
    subst hy
    refine GS.ret (fn := Try.f6) [0] [.bool false] [] rfl Try.func6 (by kernel_rfl) trivial (fun w' hs => ?_)
    exact ⟨(), rfl, hs.turnedG (ks := []) rfl rfl⟩

theorem w___digest_Engine__Crc_2 (F : Nat) (a1_o : Option Addr) (a1_c : Nat) (a1 : List UInt8) {y : Int} (hm : m___digest_Engine__Crc_2 F a1 = some y) : CallG Try.prog 13 #[.pointer none, .slice a1_o a1.length a1_c] (X := Unit) (fun (_ : Unit) => .int .u32 y) [] [r5 a1_o a1] (fun (_ : Unit) => []) := by
  intro w hg
  rw [m___digest_Engine__Crc_2] at hm
  refine GS.start (S := mayT [] [r5 a1_o a1]) (mem := [(1, r5 a1_o a1)]) Try.func13 rfl Try.ntmps13 (Nat.le_of_ble_eq_true rfl) (hg.start rfl) ?_
  refine GS.conv (env' := [(0, .pointer none), (1, .slice a1_o a1.length a1_c)]) rfl rfl ?_
  refine GS.seq ?_
  refine GS.region (env' := fun _ => [(0, .pointer none), (1, .slice a1_o a1.length a1_c)]) (mem' := fun _ => [(1, r5 a1_o a1)]) (RunsTo.mk [] [0, 1] [1] (fun _ => []) (fun _ => by kernel_rfl) (fun _ => trivial)) ?_
  intro _
  refine GS.seq ?_
  refine GS.seq ?_
  refine GS.region (env' := fun _ => [(0, .pointer none), (1, .slice a1_o a1.length a1_c), (9, .bool true)]) (mem' := fun _ => [(1, r5 a1_o a1)]) (RunsTo.mk [] [0, 1, 9] [1] (fun _ => []) (fun _ => by kernel_rfl) (fun _ => trivial)) ?_
  intro _
  refine GS.cond (t := true) rfl rfl (fun _ => ?_) (fun hf => by cases hf)
  refine GS.seq ?_
  refine GS.region (env' := fun _ => [(4, .int .u32 0)]) (mem' := fun _ => []) (RunsTo.mk [] [4] [] (fun _ => []) (fun _ => by kernel_rfl) (fun _ => trivial)) ?_
  intro _
  have hy := Option.some.inj hm
  subst hy
  refine GS.ret (fn := Try.f13) [0] [.int .u32 0] [] rfl Try.func13 (by kernel_rfl) trivial (fun w' hs => ?_)
  exact ⟨(), rfl, hs.turnedG (ks := []) rfl rfl⟩

theorem w___digest_Engine__Sha_2 (F : Nat) (a1_o : Option Addr) (a1_c : Nat) (a1 : List UInt8) {y : List Int} (hm : m___digest_Engine__Sha_2 F a1 = some y) : CallG Try.prog 15 #[.pointer none, .slice a1_o a1.length a1_c] (X := Unit) (fun (_ : Unit) => .agg (aU8 y).toArray) [] [r5 a1_o a1] (fun (_ : Unit) => []) := by
  intro w hg
  rw [m___digest_Engine__Sha_2] at hm
  refine GS.start (S := mayT [] [r5 a1_o a1]) (mem := [(1, r5 a1_o a1)]) Try.func15 rfl Try.ntmps15 (Nat.le_of_ble_eq_true rfl) (hg.start rfl) ?_
  refine GS.conv (env' := [(0, .pointer none), (1, .slice a1_o a1.length a1_c)]) rfl rfl ?_
  refine GS.seq ?_
  refine GS.region (env' := fun fr1 => [(0, .pointer none), (1, .slice a1_o a1.length a1_c), (4, .pointer (some ⟨(fr1 0).x, 0, none⟩))]) (mem' := fun fr1 => [(1, r5 a1_o a1), (2, .cells ((fr1 0).x) 30 (aU8 (List.replicate 32 0)))]) (RunsTo.mk [(0, { act := .new .var, key := some 2 })] [0, 1, 4] [1, 2] (fun fr1 => []) (fun fr1 => by kernel_rfl) (fun fr1 => trivial)) ?_
  intro fr1
  refine GS.seq ?_
  refine GS.seq ?_
  refine GS.region (env' := fun _ => [(0, .pointer none), (1, .slice a1_o a1.length a1_c), (4, .pointer (some ⟨(fr1 0).x, 0, none⟩)), (6, .bool true)]) (mem' := fun _ => [(1, r5 a1_o a1), (2, .cells ((fr1 0).x) 30 (aU8 (List.replicate 32 0)))]) (RunsTo.mk [] [0, 1, 4, 6] [1, 2] (fun _ => []) (fun _ => by kernel_rfl) (fun _ => trivial)) ?_
  intro _
  refine GS.cond (t := true) rfl rfl (fun _ => ?_) (fun hf => by cases hf)
  refine GS.seq ?_
  refine GS.region (env' := fun _ => [(4, .pointer (some ⟨(fr1 0).x, 0, none⟩))]) (mem' := fun _ => [(2, .cells ((fr1 0).x) 30 (splice (aU8 (List.replicate 32 0)) 0 ((.agg (aU8 (List.replicate 32 0)).toArray) : Value).cells.toList))]) (RunsTo.mk [(1, { act := .storeC, key := some 2 })] [4] [2] (fun _ => [(fr1 0).x = (fr1 0).x, ((.agg (aU8 (List.replicate 32 0)).toArray) : Value).cells.toList.length = 32, 0 + 32 ≤ (aU8 (List.replicate 32 0)).length, ((.agg (aU8 (List.replicate 32 0)).toArray) : Value).cells.toList.all Value.oneCell' = true]) (fun _ => by kernel_rfl) (fun _ => ⟨rfl, (aU8_len.trans (List.length_replicate ..)), (by rw [(aU8_len.trans (List.length_replicate ..))]; omega), aU8_one _, trivial⟩)) ?_
  intro _
  refine GS.conv (mem' := [(2, .cells ((fr1 0).x) 30 (aU8 (List.replicate 32 0)))]) rfl (congrArg (fun rr : List Value => ([(2, .cells ((fr1 0).x) 30 rr)] : List (Nat × Ent))) (show (splice (aU8 (List.replicate 32 0)) 0 ((.agg (aU8 (List.replicate 32 0)).toArray) : Value).cells.toList : List Value) = aU8 (List.replicate 32 0) from splice_all ((aU8_len.trans (List.length_replicate ..)).trans (aU8_len.trans (List.length_replicate ..)).symm))) ?_
  have hy := Option.some.inj hm
  subst hy
  refine GS.retC (fn := Try.f15) 2 4 30 (.pointer (some ⟨(fr1 0).x, 0, none⟩)) (aU8 (List.replicate 32 0)) (.agg (aU8 (List.replicate 32 0)).toArray) [(fr1 0).x = (fr1 0).x, (aU8 (List.replicate 32 0)).length = 32, ((aU8 (List.replicate 32 0)).drop (0)).take 32 = aU8 (List.replicate 32 0)] rfl Try.func15 (by kernel_rfl) rfl (by kernel_rfl) ⟨rfl, (aU8_len.trans (List.length_replicate ..)), drop0_take (aU8_len.trans (List.length_replicate ..)), trivial⟩ (fun w' hs => ?_)
  exact ⟨(), rfl, hs.turnedG (ks := []) rfl rfl⟩

theorem w___digest_Engine__Hash1_2 (F : Nat) (a1 : Int) {y : Int} (hm : m___digest_Engine__Hash1_2 F a1 = some y) : CallG Try.prog 21 #[.pointer none, .int .u32 a1] (X := Unit) (fun (_ : Unit) => .int .u32 y) [] [] (fun (_ : Unit) => []) := by
  intro w hg
  rw [m___digest_Engine__Hash1_2] at hm
  refine GS.start (S := mayT [] []) (mem := []) Try.func21 rfl Try.ntmps21 (Nat.le_of_ble_eq_true rfl) (hg.start rfl) ?_
  refine GS.conv (env' := [(0, .pointer none), (1, .int .u32 a1)]) rfl rfl ?_
  refine GS.seq ?_
  refine GS.region (env' := fun fr1 => [(0, .pointer none), (3, .pointer (some ⟨(fr1 0).x, 0, none⟩))]) (mem' := fun fr1 => [(1, .cells ((fr1 0).x) 28 [.int .u32 a1])]) (RunsTo.mk [(0, { act := .new .var, key := some 1 })] [0, 3] [1] (fun fr1 => []) (fun fr1 => by kernel_rfl) (fun fr1 => trivial)) ?_
  intro fr1
  refine GS.seq ?_
  refine GS.seq ?_
  refine GS.region (env' := fun _ => [(3, .pointer (some ⟨(fr1 0).x, 0, none⟩)), (10, .bool true)]) (mem' := fun _ => [(1, .cells ((fr1 0).x) 28 [.int .u32 a1])]) (RunsTo.mk [] [3, 10] [1] (fun _ => []) (fun _ => by kernel_rfl) (fun _ => trivial)) ?_
  intro _
  refine GS.cond (t := true) rfl rfl (fun _ => ?_) (fun hf => by cases hf)
  refine GS.seq ?_
  refine GS.region (env' := fun _ => [(4, .int .u32 0)]) (mem' := fun _ => []) (RunsTo.mk [] [4] [] (fun _ => []) (fun _ => by kernel_rfl) (fun _ => trivial)) ?_
  intro _
  have hy := Option.some.inj hm
  subst hy
  refine GS.ret (fn := Try.f21) [0] [.int .u32 0] [] rfl Try.func21 (by kernel_rfl) trivial (fun w' hs => ?_)
  exact ⟨(), rfl, hs.turnedG (ks := []) rfl rfl⟩

theorem w___digest_Engine__Hash2_2 (F : Nat) (a1 : Int) (a2 : Int) {y : Int} (hm : m___digest_Engine__Hash2_2 F a1 a2 = some y) : CallG Try.prog 23 #[.pointer none, .int .u32 a1, .int .u32 a2] (X := Unit) (fun (_ : Unit) => .int .u32 y) [] [] (fun (_ : Unit) => []) := by
  intro w hg
  rw [m___digest_Engine__Hash2_2] at hm
  refine GS.start (S := mayT [] []) (mem := []) Try.func23 rfl Try.ntmps23 (Nat.le_of_ble_eq_true rfl) (hg.start rfl) ?_
  refine GS.conv (env' := [(0, .pointer none), (1, .int .u32 a1), (2, .int .u32 a2)]) rfl rfl ?_
  refine GS.seq ?_
  refine GS.region (env' := fun fr1 => [(0, .pointer none), (4, .pointer (some ⟨(fr1 0).x, 0, none⟩)), (5, .pointer (some ⟨(fr1 1).x, 0, none⟩))]) (mem' := fun fr1 => [(1, .cells ((fr1 0).x) 28 [.int .u32 a1]), (2, .cells ((fr1 1).x) 28 [.int .u32 a2])]) (RunsTo.mk [(0, { act := .new .var, key := some 1 }), (1, { act := .new .var, key := some 2 })] [0, 4, 5] [1, 2] (fun fr1 => []) (fun fr1 => by kernel_rfl) (fun fr1 => trivial)) ?_
  intro fr1
  refine GS.seq ?_
  refine GS.seq ?_
  refine GS.region (env' := fun _ => [(4, .pointer (some ⟨(fr1 0).x, 0, none⟩)), (5, .pointer (some ⟨(fr1 1).x, 0, none⟩)), (11, .bool true)]) (mem' := fun _ => [(1, .cells ((fr1 0).x) 28 [.int .u32 a1]), (2, .cells ((fr1 1).x) 28 [.int .u32 a2])]) (RunsTo.mk [] [4, 5, 11] [1, 2] (fun _ => []) (fun _ => by kernel_rfl) (fun _ => trivial)) ?_
  intro _
  refine GS.cond (t := true) rfl rfl (fun _ => ?_) (fun hf => by cases hf)
  refine GS.seq ?_
  refine GS.region (env' := fun _ => [(6, .int .u32 0)]) (mem' := fun _ => []) (RunsTo.mk [] [6] [] (fun _ => []) (fun _ => by kernel_rfl) (fun _ => trivial)) ?_
  intro _
  have hy := Option.some.inj hm
  subst hy
  refine GS.ret (fn := Try.f23) [0] [.int .u32 0] [] rfl Try.func23 (by kernel_rfl) trivial (fun w' hs => ?_)
  exact ⟨(), rfl, hs.turnedG (ks := []) rfl rfl⟩

theorem w___digest_Engine__Hash3_2 (F : Nat) (a1 : Int) (a2 : Int) (a3 : Int) {y : Int} (hm : m___digest_Engine__Hash3_2 F a1 a2 a3 = some y) : CallG Try.prog 25 #[.pointer none, .int .u32 a1, .int .u32 a2, .int .u32 a3] (X := Unit) (fun (_ : Unit) => .int .u32 y) [] [] (fun (_ : Unit) => []) := by
  intro w hg
  rw [m___digest_Engine__Hash3_2] at hm
  refine GS.start (S := mayT [] []) (mem := []) Try.func25 rfl Try.ntmps25 (Nat.le_of_ble_eq_true rfl) (hg.start rfl) ?_
  refine GS.conv (env' := [(0, .pointer none), (1, .int .u32 a1), (2, .int .u32 a2), (3, .int .u32 a3)]) rfl rfl ?_
  refine GS.seq ?_
  refine GS.region (env' := fun fr1 => [(0, .pointer none), (5, .pointer (some ⟨(fr1 0).x, 0, none⟩)), (6, .pointer (some ⟨(fr1 1).x, 0, none⟩)), (7, .pointer (some ⟨(fr1 2).x, 0, none⟩))]) (mem' := fun fr1 => [(1, .cells ((fr1 0).x) 28 [.int .u32 a1]), (2, .cells ((fr1 1).x) 28 [.int .u32 a2]), (3, .cells ((fr1 2).x) 28 [.int .u32 a3])]) (RunsTo.mk [(0, { act := .new .var, key := some 1 }), (1, { act := .new .var, key := some 2 }), (2, { act := .new .var, key := some 3 })] [0, 5, 6, 7] [1, 2, 3] (fun fr1 => []) (fun fr1 => by kernel_rfl) (fun fr1 => trivial)) ?_
  intro fr1
  refine GS.seq ?_
  refine GS.seq ?_
  refine GS.region (env' := fun _ => [(5, .pointer (some ⟨(fr1 0).x, 0, none⟩)), (6, .pointer (some ⟨(fr1 1).x, 0, none⟩)), (7, .pointer (some ⟨(fr1 2).x, 0, none⟩)), (13, .bool true)]) (mem' := fun _ => [(1, .cells ((fr1 0).x) 28 [.int .u32 a1]), (2, .cells ((fr1 1).x) 28 [.int .u32 a2]), (3, .cells ((fr1 2).x) 28 [.int .u32 a3])]) (RunsTo.mk [] [5, 6, 7, 13] [1, 2, 3] (fun _ => []) (fun _ => by kernel_rfl) (fun _ => trivial)) ?_
  intro _
  refine GS.cond (t := true) rfl rfl (fun _ => ?_) (fun hf => by cases hf)
  refine GS.seq ?_
  refine GS.region (env' := fun _ => [(8, .int .u32 0)]) (mem' := fun _ => []) (RunsTo.mk [] [8] [] (fun _ => []) (fun _ => by kernel_rfl) (fun _ => trivial)) ?_
  intro _
  have hy := Option.some.inj hm
  subst hy
  refine GS.ret (fn := Try.f25) [0] [.int .u32 0] [] rfl Try.func25 (by kernel_rfl) trivial (fun w' hs => ?_)
  exact ⟨(), rfl, hs.turnedG (ks := []) rfl rfl⟩

theorem w___digest_Engine__Name_2 (F : Nat) (a1 : ByteArray) {y : Int} (hm : m___digest_Engine__Name_2 F a1 = some y) : CallG Try.prog 19 #[.pointer none, .string a1] (X := Unit) (fun (_ : Unit) => .int .u32 y) [] [] (fun (_ : Unit) => []) := by
  intro w hg
  rw [m___digest_Engine__Name_2] at hm
  refine GS.start (S := mayT [] []) (mem := []) Try.func19 rfl Try.ntmps19 (Nat.le_of_ble_eq_true rfl) (hg.start rfl) ?_
  refine GS.conv (env' := [(0, .pointer none), (1, .string a1)]) rfl rfl ?_
  refine GS.seq ?_
  refine GS.region (env' := fun _ => [(0, .pointer none), (1, .string a1)]) (mem' := fun _ => []) (RunsTo.mk [] [0, 1] [] (fun _ => []) (fun _ => by kernel_rfl) (fun _ => trivial)) ?_
  intro _
  refine GS.seq ?_
  refine GS.seq ?_
  refine GS.region (env' := fun _ => [(1, .string a1), (11, .bool true)]) (mem' := fun _ => []) (RunsTo.mk [] [1, 11] [] (fun _ => []) (fun _ => by kernel_rfl) (fun _ => trivial)) ?_
  intro _
  refine GS.cond (t := true) rfl rfl (fun _ => ?_) (fun hf => by cases hf)
  refine GS.seq ?_
  refine GS.region (env' := fun _ => [(4, .int .u32 0)]) (mem' := fun _ => []) (RunsTo.mk [] [4] [] (fun _ => []) (fun _ => by kernel_rfl) (fun _ => trivial)) ?_
  intro _
  have hy := Option.some.inj hm
  subst hy
  refine GS.ret (fn := Try.f19) [0] [.int .u32 0] [] rfl Try.func19 (by kernel_rfl) trivial (fun w' hs => ?_)
  exact ⟨(), rfl, hs.turnedG (ks := []) rfl rfl⟩

theorem w___digest_Engine__Calls_2 (F : Nat) {y : Int} (hm : m___digest_Engine__Calls_2 F = some y) : CallG Try.prog 17 #[.pointer none] (X := Unit) (fun (_ : Unit) => .int .i64 y) [] [] (fun (_ : Unit) => []) := by
  intro w hg
  rw [m___digest_Engine__Calls_2] at hm
  refine GS.start (S := mayT [] []) (mem := []) Try.func17 rfl Try.ntmps17 (Nat.le_of_ble_eq_true rfl) (hg.start rfl) ?_
  refine GS.conv (env' := [(0, .pointer none)]) rfl rfl ?_
  refine GS.seq ?_
  refine GS.region (env' := fun _ => [(0, .pointer none)]) (mem' := fun _ => []) (RunsTo.mk [] [0] [] (fun _ => []) (fun _ => by kernel_rfl) (fun _ => trivial)) ?_
  intro _
  refine GS.seq ?_
  refine GS.seq ?_
  refine GS.region (env' := fun _ => [(0, .pointer none), (4, .bool true)]) (mem' := fun _ => []) (RunsTo.mk [] [0, 4] [] (fun _ => []) (fun _ => by kernel_rfl) (fun _ => trivial)) ?_
  intro _
  refine GS.cond (t := true) rfl rfl (fun _ => ?_) (fun hf => by cases hf)
  refine GS.seq ?_
  refine GS.region (env' := fun _ => [(2, .int .i64 0)]) (mem' := fun _ => []) (RunsTo.mk [] [2] [] (fun _ => []) (fun _ => by kernel_rfl) (fun _ => trivial)) ?_
  intro _
  have hy := Option.some.inj hm
  subst hy
  refine GS.ret (fn := Try.f17) [0] [.int .i64 0] [] rfl Try.func17 (by kernel_rfl) trivial (fun w' hs => ?_)
  exact ⟨(), rfl, hs.turnedG (ks := []) rfl rfl⟩

theorem w_tholelaw01_DigestNone (F : Nat) (a0_o : Option Addr) (a0_c : Nat) (a0 : List UInt8) {y : Bool} (hm : m_tholelaw01_DigestNone F a0 = some y) : CallG Try.prog 9 #[.slice a0_o a0.length a0_c] (X := Unit) (fun (_ : Unit) => .bool y) [] [r5 a0_o a0] (fun (_ : Unit) => []) := by
  intro w hg
  rw [m_tholelaw01_DigestNone] at hm
  refine GS.start (S := mayT [] [r5 a0_o a0]) (mem := [(1, r5 a0_o a0)]) Try.func9 rfl Try.ntmps9 (Nat.le_of_ble_eq_true rfl) (hg.start rfl) ?_
  refine GS.conv (env' := [(0, .slice a0_o a0.length a0_c)]) rfl rfl ?_
  refine GS.seq ?_
  refine GS.region (env' := fun _ => [(0, .slice a0_o a0.length a0_c)]) (mem' := fun _ => [(1, r5 a0_o a0)]) (RunsTo.mk [] [0] [1] (fun _ => []) (fun _ => by kernel_rfl) (fun _ => trivial)) ?_
  intro _
  refine GS.seq ?_
  refine GS.region (env' := fun _ => [(0, .slice a0_o a0.length a0_c), (3, .pointer none)]) (mem' := fun _ => [(1, r5 a0_o a0)]) (RunsTo.mk [] [0, 3] [1] (fun _ => []) (fun _ => by kernel_rfl) (fun _ => trivial)) ?_
  intro _
  refine GS.seq ?_
  refine bnd_elim hm (fun y4 e5 hm => ?_)
  refine br_elim hm (fun h6 hm => ?_) (fun h6 hm => ?_)
  · skip
    refine bnd_elim hm (fun y7 e8 hm => ?_)
    refine grd_elim hm (fun g9 hm => ?_)
    refine br_elim hm (fun h10 hm => ?_) (fun h10 hm => ?_)
    · skip
      refine bnd_elim hm (fun y11 e12 hm => ?_)
      refine br_elim hm (fun h13 hm => ?_) (fun h13 hm => ?_)
      · skip
        refine bnd_elim hm (fun y14 e15 hm => ?_)
        refine br_elim hm (fun h16 hm => ?_) (fun h16 hm => ?_)
        · skip
          refine bnd_elim hm (fun y17 e18 hm => ?_)
          refine br_elim hm (fun h19 hm => ?_) (fun h19 hm => ?_)
          · skip
            refine bnd_elim hm (fun y20 e21 hm => ?_)
            refine br_elim hm (fun h22 hm => ?_) (fun h22 hm => ?_)
            · skip
              refine bnd_elim hm (fun y23 e24 hm => ?_)
              refine br_elim hm (fun h25 hm => ?_) (fun h25 hm => ?_)
              · skip
                refine bnd_elim hm (fun y26 e27 hm => ?_)
                refine GS.region (env' := fun _ => [(2, .bool y26)]) (mem' := fun _ => []) (RunsTo.mk [(2, { act := .call [1] (.int .u32 y4) }), (4, { sp := some (.bool true) }), (7, { act := .call [1] (.agg (aU8 y7).toArray) }), (9, { act := .eqA y7 (List.replicate 32 0) }), (11, { sp := some (.bool true) }), (13, { act := .call [] (.int .u32 y11) }), (16, { sp := some (.bool true) }), (18, { act := .call [] (.int .u32 y14) }), (21, { sp := some (.bool true) }), (23, { act := .call [] (.int .u32 y17) }), (26, { sp := some (.bool true) }), (28, { act := .call [] (.int .u32 y20) }), (31, { sp := some (.bool true) }), (33, { act := .call [] (.int .i64 y23) }), (36, { sp := some (.bool true) }), (37, { act := .call [] (.bool y26) })] [2] [] (fun _ => [CallOK Try.prog 13 #[.pointer none, .slice a0_o a0.length a0_c] (.int .u32 y4) [some (r5 a0_o a0)], ((.bool (y4 == 0)) : Value) = .bool true, CallOK Try.prog 15 #[.pointer none, .slice a0_o a0.length a0_c] (.agg (aU8 y7).toArray) [some (r5 a0_o a0)], (aU8 y7).toArray = (List.map (Value.int .u8) y7).toArray, (aU8 (List.replicate 32 0)).toArray = (List.map (Value.int .u8) (List.replicate 32 0)).toArray, y7.length = 32, (List.replicate 32 0).length = 32, ((.bool (y7 == (List.replicate 32 0))) : Value) = .bool true, CallOK Try.prog 21 #[.pointer none, .int .u32 1] (.int .u32 y11) [], ((.bool (y11 == 0)) : Value) = .bool true, CallOK Try.prog 23 #[.pointer none, .int .u32 1, .int .u32 2] (.int .u32 y14) [], ((.bool (y14 == 0)) : Value) = .bool true, CallOK Try.prog 25 #[.pointer none, .int .u32 1, .int .u32 2, .int .u32 3] (.int .u32 y17) [], ((.bool (y17 == 0)) : Value) = .bool true, CallOK Try.prog 19 #[.pointer none, .string (ByteArray.mk #[97])] (.int .u32 y20) [], ((.bool (y20 == 0)) : Value) = .bool true, CallOK Try.prog 17 #[.pointer none] (.int .i64 y23) [], ((.bool (y23 == 0)) : Value) = .bool true, CallOK Try.prog 11 #[] (.bool y26) []]) (fun _ => by kernel_rfl) (fun _ => ⟨(w___digest_Engine__Crc_2 F a0_o a0_c a0 e5).ok ⟨(.inl ⟨r5 a0_o a0, .head _, Cov.refl _⟩), trivial⟩, bool_eq h6, (w___digest_Engine__Sha_2 F a0_o a0_c a0 e8).ok ⟨(.inl ⟨r5 a0_o a0, .head _, Cov.refl _⟩), trivial⟩, rfl, rfl, g9, (List.length_replicate ..), bool_eq h10, (w___digest_Engine__Hash1_2 F 1 e12).ok trivial, bool_eq h13, (w___digest_Engine__Hash2_2 F 1 2 e15).ok trivial, bool_eq h16, (w___digest_Engine__Hash3_2 F 1 2 3 e18).ok trivial, bool_eq h19, (w___digest_Engine__Name_2 F (ByteArray.mk #[97]) e21).ok trivial, bool_eq h22, (w___digest_Engine__Calls_2 F  e24).ok trivial, bool_eq h25, (w_tholelaw01_lives F  e27).ok trivial, trivial⟩)) ?_
                intro _
                have hy := Option.some.inj hm
                subst hy
                refine GS.ret (fn := Try.f9) [0] [.bool y26] [] rfl Try.func9 (by kernel_rfl) trivial (fun w' hs => ?_)
                exact ⟨(), rfl, hs.turnedG (ks := []) rfl rfl⟩
              · skip
                refine GS.region (env' := fun _ => [(2, .bool false)]) (mem' := fun _ => []) (RunsTo.mk [(2, { act := .call [1] (.int .u32 y4) }), (4, { sp := some (.bool true) }), (7, { act := .call [1] (.agg (aU8 y7).toArray) }), (9, { act := .eqA y7 (List.replicate 32 0) }), (11, { sp := some (.bool true) }), (13, { act := .call [] (.int .u32 y11) }), (16, { sp := some (.bool true) }), (18, { act := .call [] (.int .u32 y14) }), (21, { sp := some (.bool true) }), (23, { act := .call [] (.int .u32 y17) }), (26, { sp := some (.bool true) }), (28, { act := .call [] (.int .u32 y20) }), (31, { sp := some (.bool true) }), (33, { act := .call [] (.int .i64 y23) }), (36, { sp := some (.bool false) })] [2] [] (fun _ => [CallOK Try.prog 13 #[.pointer none, .slice a0_o a0.length a0_c] (.int .u32 y4) [some (r5 a0_o a0)], ((.bool (y4 == 0)) : Value) = .bool true, CallOK Try.prog 15 #[.pointer none, .slice a0_o a0.length a0_c] (.agg (aU8 y7).toArray) [some (r5 a0_o a0)], (aU8 y7).toArray = (List.map (Value.int .u8) y7).toArray, (aU8 (List.replicate 32 0)).toArray = (List.map (Value.int .u8) (List.replicate 32 0)).toArray, y7.length = 32, (List.replicate 32 0).length = 32, ((.bool (y7 == (List.replicate 32 0))) : Value) = .bool true, CallOK Try.prog 21 #[.pointer none, .int .u32 1] (.int .u32 y11) [], ((.bool (y11 == 0)) : Value) = .bool true, CallOK Try.prog 23 #[.pointer none, .int .u32 1, .int .u32 2] (.int .u32 y14) [], ((.bool (y14 == 0)) : Value) = .bool true, CallOK Try.prog 25 #[.pointer none, .int .u32 1, .int .u32 2, .int .u32 3] (.int .u32 y17) [], ((.bool (y17 == 0)) : Value) = .bool true, CallOK Try.prog 19 #[.pointer none, .string (ByteArray.mk #[97])] (.int .u32 y20) [], ((.bool (y20 == 0)) : Value) = .bool true, CallOK Try.prog 17 #[.pointer none] (.int .i64 y23) [], ((.bool (y23 == 0)) : Value) = .bool false]) (fun _ => by kernel_rfl) (fun _ => ⟨(w___digest_Engine__Crc_2 F a0_o a0_c a0 e5).ok ⟨(.inl ⟨r5 a0_o a0, .head _, Cov.refl _⟩), trivial⟩, bool_eq h6, (w___digest_Engine__Sha_2 F a0_o a0_c a0 e8).ok ⟨(.inl ⟨r5 a0_o a0, .head _, Cov.refl _⟩), trivial⟩, rfl, rfl, g9, (List.length_replicate ..), bool_eq h10, (w___digest_Engine__Hash1_2 F 1 e12).ok trivial, bool_eq h13, (w___digest_Engine__Hash2_2 F 1 2 e15).ok trivial, bool_eq h16, (w___digest_Engine__Hash3_2 F 1 2 3 e18).ok trivial, bool_eq h19, (w___digest_Engine__Name_2 F (ByteArray.mk #[97]) e21).ok trivial, bool_eq h22, (w___digest_Engine__Calls_2 F  e24).ok trivial, bool_eq h25, trivial⟩)) ?_
                intro _
                have hy := Option.some.inj hm
                subst hy
                refine GS.ret (fn := Try.f9) [0] [.bool false] [] rfl Try.func9 (by kernel_rfl) trivial (fun w' hs => ?_)
                exact ⟨(), rfl, hs.turnedG (ks := []) rfl rfl⟩
            · skip
              refine GS.region (env' := fun _ => [(2, .bool false)]) (mem' := fun _ => []) (RunsTo.mk [(2, { act := .call [1] (.int .u32 y4) }), (4, { sp := some (.bool true) }), (7, { act := .call [1] (.agg (aU8 y7).toArray) }), (9, { act := .eqA y7 (List.replicate 32 0) }), (11, { sp := some (.bool true) }), (13, { act := .call [] (.int .u32 y11) }), (16, { sp := some (.bool true) }), (18, { act := .call [] (.int .u32 y14) }), (21, { sp := some (.bool true) }), (23, { act := .call [] (.int .u32 y17) }), (26, { sp := some (.bool true) }), (28, { act := .call [] (.int .u32 y20) }), (31, { sp := some (.bool false) })] [2] [] (fun _ => [CallOK Try.prog 13 #[.pointer none, .slice a0_o a0.length a0_c] (.int .u32 y4) [some (r5 a0_o a0)], ((.bool (y4 == 0)) : Value) = .bool true, CallOK Try.prog 15 #[.pointer none, .slice a0_o a0.length a0_c] (.agg (aU8 y7).toArray) [some (r5 a0_o a0)], (aU8 y7).toArray = (List.map (Value.int .u8) y7).toArray, (aU8 (List.replicate 32 0)).toArray = (List.map (Value.int .u8) (List.replicate 32 0)).toArray, y7.length = 32, (List.replicate 32 0).length = 32, ((.bool (y7 == (List.replicate 32 0))) : Value) = .bool true, CallOK Try.prog 21 #[.pointer none, .int .u32 1] (.int .u32 y11) [], ((.bool (y11 == 0)) : Value) = .bool true, CallOK Try.prog 23 #[.pointer none, .int .u32 1, .int .u32 2] (.int .u32 y14) [], ((.bool (y14 == 0)) : Value) = .bool true, CallOK Try.prog 25 #[.pointer none, .int .u32 1, .int .u32 2, .int .u32 3] (.int .u32 y17) [], ((.bool (y17 == 0)) : Value) = .bool true, CallOK Try.prog 19 #[.pointer none, .string (ByteArray.mk #[97])] (.int .u32 y20) [], ((.bool (y20 == 0)) : Value) = .bool false]) (fun _ => by kernel_rfl) (fun _ => ⟨(w___digest_Engine__Crc_2 F a0_o a0_c a0 e5).ok ⟨(.inl ⟨r5 a0_o a0, .head _, Cov.refl _⟩), trivial⟩, bool_eq h6, (w___digest_Engine__Sha_2 F a0_o a0_c a0 e8).ok ⟨(.inl ⟨r5 a0_o a0, .head _, Cov.refl _⟩), trivial⟩, rfl, rfl, g9, (List.length_replicate ..), bool_eq h10, (w___digest_Engine__Hash1_2 F 1 e12).ok trivial, bool_eq h13, (w___digest_Engine__Hash2_2 F 1 2 e15).ok trivial, bool_eq h16, (w___digest_Engine__Hash3_2 F 1 2 3 e18).ok trivial, bool_eq h19, (w___digest_Engine__Name_2 F (ByteArray.mk #[97]) e21).ok trivial, bool_eq h22, trivial⟩)) ?_
              intro _
              have hy := Option.some.inj hm
              subst hy
              refine GS.ret (fn := Try.f9) [0] [.bool false] [] rfl Try.func9 (by kernel_rfl) trivial (fun w' hs => ?_)
              exact ⟨(), rfl, hs.turnedG (ks := []) rfl rfl⟩
          · skip
            refine GS.region (env' := fun _ => [(2, .bool false)]) (mem' := fun _ => []) (RunsTo.mk [(2, { act := .call [1] (.int .u32 y4) }), (4, { sp := some (.bool true) }), (7, { act := .call [1] (.agg (aU8 y7).toArray) }), (9, { act := .eqA y7 (List.replicate 32 0) }), (11, { sp := some (.bool true) }), (13, { act := .call [] (.int .u32 y11) }), (16, { sp := some (.bool true) }), (18, { act := .call [] (.int .u32 y14) }), (21, { sp := some (.bool true) }), (23, { act := .call [] (.int .u32 y17) }), (26, { sp := some (.bool false) })] [2] [] (fun _ => [CallOK Try.prog 13 #[.pointer none, .slice a0_o a0.length a0_c] (.int .u32 y4) [some (r5 a0_o a0)], ((.bool (y4 == 0)) : Value) = .bool true, CallOK Try.prog 15 #[.pointer none, .slice a0_o a0.length a0_c] (.agg (aU8 y7).toArray) [some (r5 a0_o a0)], (aU8 y7).toArray = (List.map (Value.int .u8) y7).toArray, (aU8 (List.replicate 32 0)).toArray = (List.map (Value.int .u8) (List.replicate 32 0)).toArray, y7.length = 32, (List.replicate 32 0).length = 32, ((.bool (y7 == (List.replicate 32 0))) : Value) = .bool true, CallOK Try.prog 21 #[.pointer none, .int .u32 1] (.int .u32 y11) [], ((.bool (y11 == 0)) : Value) = .bool true, CallOK Try.prog 23 #[.pointer none, .int .u32 1, .int .u32 2] (.int .u32 y14) [], ((.bool (y14 == 0)) : Value) = .bool true, CallOK Try.prog 25 #[.pointer none, .int .u32 1, .int .u32 2, .int .u32 3] (.int .u32 y17) [], ((.bool (y17 == 0)) : Value) = .bool false]) (fun _ => by kernel_rfl) (fun _ => ⟨(w___digest_Engine__Crc_2 F a0_o a0_c a0 e5).ok ⟨(.inl ⟨r5 a0_o a0, .head _, Cov.refl _⟩), trivial⟩, bool_eq h6, (w___digest_Engine__Sha_2 F a0_o a0_c a0 e8).ok ⟨(.inl ⟨r5 a0_o a0, .head _, Cov.refl _⟩), trivial⟩, rfl, rfl, g9, (List.length_replicate ..), bool_eq h10, (w___digest_Engine__Hash1_2 F 1 e12).ok trivial, bool_eq h13, (w___digest_Engine__Hash2_2 F 1 2 e15).ok trivial, bool_eq h16, (w___digest_Engine__Hash3_2 F 1 2 3 e18).ok trivial, bool_eq h19, trivial⟩)) ?_
            intro _
            have hy := Option.some.inj hm
            subst hy
            refine GS.ret (fn := Try.f9) [0] [.bool false] [] rfl Try.func9 (by kernel_rfl) trivial (fun w' hs => ?_)
            exact ⟨(), rfl, hs.turnedG (ks := []) rfl rfl⟩
        · skip
          refine GS.region (env' := fun _ => [(2, .bool false)]) (mem' := fun _ => []) (RunsTo.mk [(2, { act := .call [1] (.int .u32 y4) }), (4, { sp := some (.bool true) }), (7, { act := .call [1] (.agg (aU8 y7).toArray) }), (9, { act := .eqA y7 (List.replicate 32 0) }), (11, { sp := some (.bool true) }), (13, { act := .call [] (.int .u32 y11) }), (16, { sp := some (.bool true) }), (18, { act := .call [] (.int .u32 y14) }), (21, { sp := some (.bool false) })] [2] [] (fun _ => [CallOK Try.prog 13 #[.pointer none, .slice a0_o a0.length a0_c] (.int .u32 y4) [some (r5 a0_o a0)], ((.bool (y4 == 0)) : Value) = .bool true, CallOK Try.prog 15 #[.pointer none, .slice a0_o a0.length a0_c] (.agg (aU8 y7).toArray) [some (r5 a0_o a0)], (aU8 y7).toArray = (List.map (Value.int .u8) y7).toArray, (aU8 (List.replicate 32 0)).toArray = (List.map (Value.int .u8) (List.replicate 32 0)).toArray, y7.length = 32, (List.replicate 32 0).length = 32, ((.bool (y7 == (List.replicate 32 0))) : Value) = .bool true, CallOK Try.prog 21 #[.pointer none, .int .u32 1] (.int .u32 y11) [], ((.bool (y11 == 0)) : Value) = .bool true, CallOK Try.prog 23 #[.pointer none, .int .u32 1, .int .u32 2] (.int .u32 y14) [], ((.bool (y14 == 0)) : Value) = .bool false]) (fun _ => by kernel_rfl) (fun _ => ⟨(w___digest_Engine__Crc_2 F a0_o a0_c a0 e5).ok ⟨(.inl ⟨r5 a0_o a0, .head _, Cov.refl _⟩), trivial⟩, bool_eq h6, (w___digest_Engine__Sha_2 F a0_o a0_c a0 e8).ok ⟨(.inl ⟨r5 a0_o a0, .head _, Cov.refl _⟩), trivial⟩, rfl, rfl, g9, (List.length_replicate ..), bool_eq h10, (w___digest_Engine__Hash1_2 F 1 e12).ok trivial, bool_eq h13, (w___digest_Engine__Hash2_2 F 1 2 e15).ok trivial, bool_eq h16, trivial⟩)) ?_
          intro _
          have hy := Option.some.inj hm
          subst hy
          refine GS.ret (fn := Try.f9) [0] [.bool false] [] rfl Try.func9 (by kernel_rfl) trivial (fun w' hs => ?_)
          exact ⟨(), rfl, hs.turnedG (ks := []) rfl rfl⟩
      · skip
        refine GS.region (env' := fun _ => [(2, .bool false)]) (mem' := fun _ => []) (RunsTo.mk [(2, { act := .call [1] (.int .u32 y4) }), (4, { sp := some (.bool true) }), (7, { act := .call [1] (.agg (aU8 y7).toArray) }), (9, { act := .eqA y7 (List.replicate 32 0) }), (11, { sp := some (.bool true) }), (13, { act := .call [] (.int .u32 y11) }), (16, { sp := some (.bool false) })] [2] [] (fun _ => [CallOK Try.prog 13 #[.pointer none, .slice a0_o a0.length a0_c] (.int .u32 y4) [some (r5 a0_o a0)], ((.bool (y4 == 0)) : Value) = .bool true, CallOK Try.prog 15 #[.pointer none, .slice a0_o a0.length a0_c] (.agg (aU8 y7).toArray) [some (r5 a0_o a0)], (aU8 y7).toArray = (List.map (Value.int .u8) y7).toArray, (aU8 (List.replicate 32 0)).toArray = (List.map (Value.int .u8) (List.replicate 32 0)).toArray, y7.length = 32, (List.replicate 32 0).length = 32, ((.bool (y7 == (List.replicate 32 0))) : Value) = .bool true, CallOK Try.prog 21 #[.pointer none, .int .u32 1] (.int .u32 y11) [], ((.bool (y11 == 0)) : Value) = .bool false]) (fun _ => by kernel_rfl) (fun _ => ⟨(w___digest_Engine__Crc_2 F a0_o a0_c a0 e5).ok ⟨(.inl ⟨r5 a0_o a0, .head _, Cov.refl _⟩), trivial⟩, bool_eq h6, (w___digest_Engine__Sha_2 F a0_o a0_c a0 e8).ok ⟨(.inl ⟨r5 a0_o a0, .head _, Cov.refl _⟩), trivial⟩, rfl, rfl, g9, (List.length_replicate ..), bool_eq h10, (w___digest_Engine__Hash1_2 F 1 e12).ok trivial, bool_eq h13, trivial⟩)) ?_
        intro _
        have hy := Option.some.inj hm
        subst hy
        refine GS.ret (fn := Try.f9) [0] [.bool false] [] rfl Try.func9 (by kernel_rfl) trivial (fun w' hs => ?_)
        exact ⟨(), rfl, hs.turnedG (ks := []) rfl rfl⟩
    · skip
      refine GS.region (env' := fun _ => [(2, .bool false)]) (mem' := fun _ => []) (RunsTo.mk [(2, { act := .call [1] (.int .u32 y4) }), (4, { sp := some (.bool true) }), (7, { act := .call [1] (.agg (aU8 y7).toArray) }), (9, { act := .eqA y7 (List.replicate 32 0) }), (11, { sp := some (.bool false) })] [2] [] (fun _ => [CallOK Try.prog 13 #[.pointer none, .slice a0_o a0.length a0_c] (.int .u32 y4) [some (r5 a0_o a0)], ((.bool (y4 == 0)) : Value) = .bool true, CallOK Try.prog 15 #[.pointer none, .slice a0_o a0.length a0_c] (.agg (aU8 y7).toArray) [some (r5 a0_o a0)], (aU8 y7).toArray = (List.map (Value.int .u8) y7).toArray, (aU8 (List.replicate 32 0)).toArray = (List.map (Value.int .u8) (List.replicate 32 0)).toArray, y7.length = 32, (List.replicate 32 0).length = 32, ((.bool (y7 == (List.replicate 32 0))) : Value) = .bool false]) (fun _ => by kernel_rfl) (fun _ => ⟨(w___digest_Engine__Crc_2 F a0_o a0_c a0 e5).ok ⟨(.inl ⟨r5 a0_o a0, .head _, Cov.refl _⟩), trivial⟩, bool_eq h6, (w___digest_Engine__Sha_2 F a0_o a0_c a0 e8).ok ⟨(.inl ⟨r5 a0_o a0, .head _, Cov.refl _⟩), trivial⟩, rfl, rfl, g9, (List.length_replicate ..), bool_eq h10, trivial⟩)) ?_
      intro _
      have hy := Option.some.inj hm
      subst hy
      refine GS.ret (fn := Try.f9) [0] [.bool false] [] rfl Try.func9 (by kernel_rfl) trivial (fun w' hs => ?_)
      exact ⟨(), rfl, hs.turnedG (ks := []) rfl rfl⟩
  · skip
    refine GS.region (env' := fun _ => [(2, .bool false)]) (mem' := fun _ => []) (RunsTo.mk [(2, { act := .call [1] (.int .u32 y4) }), (4, { sp := some (.bool false) })] [2] [] (fun _ => [CallOK Try.prog 13 #[.pointer none, .slice a0_o a0.length a0_c] (.int .u32 y4) [some (r5 a0_o a0)], ((.bool (y4 == 0)) : Value) = .bool false]) (fun _ => by kernel_rfl) (fun _ => ⟨(w___digest_Engine__Crc_2 F a0_o a0_c a0 e5).ok ⟨(.inl ⟨r5 a0_o a0, .head _, Cov.refl _⟩), trivial⟩, bool_eq h6, trivial⟩)) ?_
    intro _
    have hy := Option.some.inj hm
    subst hy
    refine GS.ret (fn := Try.f9) [0] [.bool false] [] rfl Try.func9 (by kernel_rfl) trivial (fun w' hs => ?_)
    exact ⟨(), rfl, hs.turnedG (ks := []) rfl rfl⟩

end Go.Proofs.Ytmjlfdllpnkgoaa
