/-
  CHAPTER 01: the functions do what their models say (2).
-/
import Derived.Test.YtmjlfdllpnkgoaaW01a
set_option linter.unusedVariables false
set_option linter.unusedSimpArgs false
set_option maxRecDepth 100000
namespace Go.Proofs.Ytmjlfdllpnkgoaa
open Go Go.RowKit Sx

theorem w___digest_Engine__make (F : Nat) (a0b : Nat) (a0 : S_digest_Engine) {y : S_digest_Engine} (hm : m___digest_Engine__make F a0 = some y) : CallG Try.prog 29 #[.pointer (some ⟨a0b, 0, none⟩)] (X := Unit) (fun (_ : Unit) => .tuple #[]) [.cells a0b 60 (([.int .u32 a0.once.done.v, .int .i32 a0.once.m.mu.state, .int .u32 a0.once.m.mu.sema] : List Value) ++ (aU32 a0.table ++ (([.int .i64 a0.calls.v] : List Value))))] [] (fun (_ : Unit) => [.cells a0b 60 (([.int .u32 y.once.done.v, .int .i32 y.once.m.mu.state, .int .u32 y.once.m.mu.sema] : List Value) ++ (aU32 y.table ++ (([.int .i64 y.calls.v] : List Value))))]) := by
  intro w hg
  rw [m___digest_Engine__make] at hm
  refine GS.start (S := mayT [.cells a0b 60 (([.int .u32 a0.once.done.v, .int .i32 a0.once.m.mu.state, .int .u32 a0.once.m.mu.sema] : List Value) ++ (aU32 a0.table ++ (([.int .i64 a0.calls.v] : List Value))))] []) (mem := [(1, .cells a0b 60 (([.int .u32 a0.once.done.v, .int .i32 a0.once.m.mu.state, .int .u32 a0.once.m.mu.sema] : List Value) ++ (aU32 a0.table ++ (([.int .i64 a0.calls.v] : List Value)))))]) Try.func29 rfl Try.ntmps29 (Nat.le_of_ble_eq_true rfl) (hg.start rfl) ?_
  refine GS.conv (env' := [(0, .pointer (some ⟨a0b, 0, none⟩))]) rfl rfl ?_
  refine GS.seq ?_
  refine GS.region (env' := fun _ => [(0, .pointer (some ⟨a0b, 0, none⟩)), (4, .int .i64 0)]) (mem' := fun _ => [(1, .cells a0b 60 (([.int .u32 a0.once.done.v, .int .i32 a0.once.m.mu.state, .int .u32 a0.once.m.mu.sema] : List Value) ++ (aU32 a0.table ++ (([.int .i64 a0.calls.v] : List Value)))))]) (RunsTo.mk [] [0, 4] [1] (fun _ => []) (fun _ => by kernel_rfl) (fun _ => trivial)) ?_
  intro _
  refine GS.block ?_
  refine GS.loop ?_
  refine grd_elim hm (fun g100 hm => ?_)
  refine GS.rekey (env' := [(0, .pointer (some ⟨a0b, 0, none⟩)), (4, .int .i64 0)]) (mem' := [(1, .cells a0b 60 (([.int .u32 a0.once.done.v, .int .i32 a0.once.m.mu.state, .int .u32 a0.once.m.mu.sema] : List Value) ++ (aU32 a0.table ++ (([.int .i64 a0.calls.v] : List Value)))))]) [0, 4] [(1, 1)] (by kernel_rfl) (by kernel_rfl) rfl ?_
  refine loopC_elim hm (fun st169 fn170 hst171 hfn172 hm => ?_)
  refine GS.loopInv (ι := Nat × Nat × List Int) (I := fun ⟨rs167, v4_1, c1_3_1⟩ => ((256) - ((v4_1 : Nat) : Int) : Int).toNat = rs167 ∧ loopC st169 fn170 rs167 v4_1 c1_3_1 = some y) (μ := fun ⟨rs167, v4_1, c1_3_1⟩ => rs167) (E := fun ⟨rs167, v4_1, c1_3_1⟩ => [(0, .pointer (some ⟨a0b, 0, none⟩)), (4, .int .i64 ((v4_1 : Nat) : Int))]) (M := fun ⟨rs167, v4_1, c1_3_1⟩ => [(1, .cells a0b 60 (([.int .u32 a0.once.done.v, .int .i32 a0.once.m.mu.state, .int .u32 a0.once.m.mu.sema] : List Value) ++ (aU32 c1_3_1 ++ (([.int .i64 a0.calls.v] : List Value)))))]) ?_ ⟨(Int.toNat (256 - ((0 : Nat) : Int))), 0, a0.table⟩ ⟨rfl, hm⟩
  rintro ⟨rs167, v4_1, c1_3_1⟩ ⟨hd99, hm⟩ ih168
  cases rs167 with
  | zero =>
    replace hm := (hfn172 _ _).symm.trans hm
    try dsimp only at hm
    refine GS.seq ?_
    refine GS.region (env' := fun _ => [(0, .pointer (some ⟨a0b, 0, none⟩)), (4, .int .i64 ((v4_1 : Nat) : Int)), (5, .bool (decide (((v4_1 : Nat) : Int) < 256)))]) (mem' := fun _ => [(1, .cells a0b 60 (([.int .u32 a0.once.done.v, .int .i32 a0.once.m.mu.state, .int .u32 a0.once.m.mu.sema] : List Value) ++ (aU32 c1_3_1 ++ (([.int .i64 a0.calls.v] : List Value)))))]) (RunsTo.mk [] [0, 4, 5] [1] (fun _ => []) (fun _ => by kernel_rfl) (fun _ => trivial)) ?_
    intro _
    refine GS.seq ?_
    refine GS.cond (t := decide (((v4_1 : Nat) : Int) < 256)) rfl rfl (fun h165 => absb h165 (cnt0 hd99)) (fun _ => ?_)
    refine GS.exit rfl ?_
    have hy := Option.some.inj hm
    subst hy
    refine GS.end_ (fn := Try.f29) [] [] [] rfl Try.func29 (by kernel_rfl) trivial (fun w' hs => ?_)
    exact ⟨(), rfl, hs.turnedG (ks := [1]) rfl rfl⟩
  | succ rs167 =>
    replace hm := (hst171 _ _ _).symm.trans hm
    try dsimp only at hm
    refine GS.seq ?_
    refine GS.region (env' := fun _ => [(0, .pointer (some ⟨a0b, 0, none⟩)), (4, .int .i64 ((v4_1 : Nat) : Int)), (5, .bool (decide (((v4_1 : Nat) : Int) < 256)))]) (mem' := fun _ => [(1, .cells a0b 60 (([.int .u32 a0.once.done.v, .int .i32 a0.once.m.mu.state, .int .u32 a0.once.m.mu.sema] : List Value) ++ (aU32 c1_3_1 ++ (([.int .i64 a0.calls.v] : List Value)))))]) (RunsTo.mk [] [0, 4, 5] [1] (fun _ => []) (fun _ => by kernel_rfl) (fun _ => trivial)) ?_
    intro _
    refine GS.seq ?_
    refine GS.cond (t := decide (((v4_1 : Nat) : Int) < 256)) rfl rfl (fun _ => ?_) (fun h102 => absb (cnt1 hd99) h102)
    refine GS.skip ?_
    refine GS.seq ?_
    refine GS.block ?_
    refine GS.seq ?_
    refine GS.region (env' := fun _ => [(0, .pointer (some ⟨a0b, 0, none⟩)), (2, .int .i64 ((v4_1 : Nat) : Int)), (4, .int .i64 ((v4_1 : Nat) : Int))]) (mem' := fun _ => [(1, .cells a0b 60 (([.int .u32 a0.once.done.v, .int .i32 a0.once.m.mu.state, .int .u32 a0.once.m.mu.sema] : List Value) ++ (aU32 c1_3_1 ++ (([.int .i64 a0.calls.v] : List Value)))))]) (RunsTo.mk [] [0, 2, 4] [1] (fun _ => []) (fun _ => by kernel_rfl) (fun _ => trivial)) ?_
    intro _
    refine GS.seq ?_
    refine GS.region (env' := fun _ => [(0, .pointer (some ⟨a0b, 0, none⟩)), (2, .int .i64 ((v4_1 : Nat) : Int)), (3, .int .u32 (IntKind.u32.wrap ((v4_1 : Nat) : Int))), (4, .int .i64 ((v4_1 : Nat) : Int))]) (mem' := fun _ => [(1, .cells a0b 60 (([.int .u32 a0.once.done.v, .int .i32 a0.once.m.mu.state, .int .u32 a0.once.m.mu.sema] : List Value) ++ (aU32 c1_3_1 ++ (([.int .i64 a0.calls.v] : List Value)))))]) (RunsTo.mk [] [0, 2, 3, 4] [1] (fun _ => []) (fun _ => by kernel_rfl) (fun _ => trivial)) ?_
    intro _
    refine GS.seq ?_
    refine GS.seq ?_
    refine GS.region (env' := fun _ => [(0, .pointer (some ⟨a0b, 0, none⟩)), (2, .int .i64 ((v4_1 : Nat) : Int)), (3, .int .u32 (IntKind.u32.wrap ((v4_1 : Nat) : Int))), (4, .int .i64 ((v4_1 : Nat) : Int)), (9, .int .i64 0)]) (mem' := fun _ => [(1, .cells a0b 60 (([.int .u32 a0.once.done.v, .int .i32 a0.once.m.mu.state, .int .u32 a0.once.m.mu.sema] : List Value) ++ (aU32 c1_3_1 ++ (([.int .i64 a0.calls.v] : List Value)))))]) (RunsTo.mk [] [0, 2, 3, 4, 9] [1] (fun _ => []) (fun _ => by kernel_rfl) (fun _ => trivial)) ?_
    intro _
    refine GS.block ?_
    refine GS.loop ?_
    refine grd_elim hm (fun g135 hm => ?_)
    refine GS.rekey (env' := [(0, .pointer (some ⟨a0b, 0, none⟩)), (2, .int .i64 ((v4_1 : Nat) : Int)), (3, .int .u32 (IntKind.u32.wrap ((v4_1 : Nat) : Int))), (4, .int .i64 ((v4_1 : Nat) : Int)), (9, .int .i64 0)]) (mem' := [(1, .cells a0b 60 (([.int .u32 a0.once.done.v, .int .i32 a0.once.m.mu.state, .int .u32 a0.once.m.mu.sema] : List Value) ++ (aU32 c1_3_1 ++ (([.int .i64 a0.calls.v] : List Value)))))]) [0, 2, 3, 4, 9] [(1, 1)] (by kernel_rfl) (by kernel_rfl) rfl ?_
    refine loopC_elim hm (fun st156 fn157 hst158 hfn159 hm => ?_)
    refine GS.loopInv (ι := Nat × Int × Nat) (I := fun ⟨rs154, v3_10, v9_10⟩ => ((8) - ((v9_10 : Nat) : Int) : Int).toNat = rs154 ∧ loopC st156 fn157 rs154 v9_10 v3_10 = some y) (μ := fun ⟨rs154, v3_10, v9_10⟩ => rs154) (E := fun ⟨rs154, v3_10, v9_10⟩ => [(0, .pointer (some ⟨a0b, 0, none⟩)), (2, .int .i64 ((v4_1 : Nat) : Int)), (3, .int .u32 v3_10), (4, .int .i64 ((v4_1 : Nat) : Int)), (9, .int .i64 ((v9_10 : Nat) : Int))]) (M := fun ⟨rs154, v3_10, v9_10⟩ => [(1, .cells a0b 60 (([.int .u32 a0.once.done.v, .int .i32 a0.once.m.mu.state, .int .u32 a0.once.m.mu.sema] : List Value) ++ (aU32 c1_3_1 ++ (([.int .i64 a0.calls.v] : List Value)))))]) ?_ ⟨(Int.toNat (8 - ((0 : Nat) : Int))), (IntKind.u32.wrap ((v4_1 : Nat) : Int)), 0⟩ ⟨rfl, hm⟩
    rintro ⟨rs154, v3_10, v9_10⟩ ⟨hd134, hm⟩ ih155
    cases rs154 with
    | zero =>
      replace hm := (hfn159 _ _).symm.trans hm
      try dsimp only at hm
      refine GS.seq ?_
      refine GS.region (env' := fun _ => [(0, .pointer (some ⟨a0b, 0, none⟩)), (2, .int .i64 ((v4_1 : Nat) : Int)), (3, .int .u32 v3_10), (4, .int .i64 ((v4_1 : Nat) : Int)), (9, .int .i64 ((v9_10 : Nat) : Int)), (10, .bool (decide (((v9_10 : Nat) : Int) < 8)))]) (mem' := fun _ => [(1, .cells a0b 60 (([.int .u32 a0.once.done.v, .int .i32 a0.once.m.mu.state, .int .u32 a0.once.m.mu.sema] : List Value) ++ (aU32 c1_3_1 ++ (([.int .i64 a0.calls.v] : List Value)))))]) (RunsTo.mk [] [0, 2, 3, 4, 9, 10] [1] (fun _ => []) (fun _ => by kernel_rfl) (fun _ => trivial)) ?_
      intro _
      refine GS.seq ?_
      refine GS.cond (t := decide (((v9_10 : Nat) : Int) < 8)) rfl rfl (fun h152 => absb h152 (cnt0 hd134)) (fun _ => ?_)
      refine GS.exit rfl ?_
      refine grd_elim hm (fun g161 hm => ?_)
      refine grd_elim hm (fun g162 hm => ?_)
      refine GS.region (env' := fun _ => [(0, .pointer (some ⟨a0b, 0, none⟩)), (4, .int .i64 ((v4_1 : Nat) : Int))]) (mem' := fun _ => [(1, .cells a0b 60 (splice (([.int .u32 a0.once.done.v, .int .i32 a0.once.m.mu.state, .int .u32 a0.once.m.mu.sema] : List Value) ++ (aU32 c1_3_1 ++ (([.int .i64 a0.calls.v] : List Value)))) (3 + v4_1 * 1) ((.int .u32 v3_10) : Value).cells.toList))]) (RunsTo.mk [(5, { act := .arr v4_1 }), (6, { act := .storeC, key := some 1 })] [0, 4] [1] (fun _ => [(((v4_1 : Nat) : Int) : Int) = ((v4_1 : Nat) : Int), v4_1 < 256, a0b = a0b, ((.int .u32 v3_10) : Value).cells.toList.length = 1, 3 + v4_1 * 1 + 1 ≤ (([.int .u32 a0.once.done.v, .int .i32 a0.once.m.mu.state, .int .u32 a0.once.m.mu.sema] : List Value) ++ (aU32 c1_3_1 ++ (([.int .i64 a0.calls.v] : List Value)))).length, ((.int .u32 v3_10) : Value).cells.toList.all Value.oneCell' = true]) (fun _ => by kernel_rfl) (fun _ => ⟨rfl, g161, rfl, rfl, (by have hh := g162; first | simp [aU32_len]; omega), rfl, trivial⟩)) ?_
      intro _
      refine GS.conv (mem' := [(1, .cells a0b 60 (([.int .u32 a0.once.done.v, .int .i32 a0.once.m.mu.state, .int .u32 a0.once.m.mu.sema] : List Value) ++ (aU32 (c1_3_1.set v4_1 v3_10) ++ (([.int .i64 a0.calls.v] : List Value)))))]) rfl (congrArg (fun rr : List Value => ([(1, .cells a0b 60 rr)] : List (Nat × Ent))) (show (splice (([.int .u32 a0.once.done.v, .int .i32 a0.once.m.mu.state, .int .u32 a0.once.m.mu.sema] : List Value) ++ (aU32 c1_3_1 ++ (([.int .i64 a0.calls.v] : List Value)))) (3 + v4_1 * 1) ((.int .u32 v3_10) : Value).cells.toList : List Value) = ([.int .u32 a0.once.done.v, .int .i32 a0.once.m.mu.state, .int .u32 a0.once.m.mu.sema] : List Value) ++ (aU32 (c1_3_1.set v4_1 v3_10) ++ (([.int .i64 a0.calls.v] : List Value))) from splice_aU322 (pre := ([.int .u32 a0.once.done.v, .int .i32 a0.once.m.mu.state, .int .u32 a0.once.m.mu.sema] : List Value)) (m := 3) rfl g162 (by omega))) ?_
      refine GS.inBlock ?_
      refine GS.region (env' := fun _ => [(0, .pointer (some ⟨a0b, 0, none⟩)), (4, .int .i64 ((v4_1 + 1 : Nat) : Int))]) (mem' := fun _ => [(1, .cells a0b 60 (([.int .u32 a0.once.done.v, .int .i32 a0.once.m.mu.state, .int .u32 a0.once.m.mu.sema] : List Value) ++ (aU32 (c1_3_1.set v4_1 v3_10) ++ (([.int .i64 a0.calls.v] : List Value)))))]) (RunsTo.mk [(0, { sp := some (.int .i64 ((v4_1 + 1 : Nat) : Int)) })] [0, 4] [1] (fun _ => [((.int .i64 (IntKind.i64.wrap (((v4_1 : Nat) : Int) + 1))) : Value) = .int .i64 ((v4_1 + 1 : Nat) : Int)]) (fun _ => by kernel_rfl) (fun _ => ⟨natwB (cnt1 hd99) g100, trivial⟩)) ?_
      intro _
      refine GS.inLoop ?_
      refine GS.rekey (env' := [(0, .pointer (some ⟨a0b, 0, none⟩)), (4, .int .i64 ((v4_1 + 1 : Nat) : Int))]) (mem' := [(1, .cells a0b 60 (([.int .u32 a0.once.done.v, .int .i32 a0.once.m.mu.state, .int .u32 a0.once.m.mu.sema] : List Value) ++ (aU32 (c1_3_1.set v4_1 v3_10) ++ (([.int .i64 a0.calls.v] : List Value)))))]) [0, 4] [(1, 1)] (by kernel_rfl) (by kernel_rfl) rfl ?_
      exact ih168 ⟨rs167, v4_1 + 1, (c1_3_1.set v4_1 v3_10)⟩ ⟨cntN hd99, hm⟩ (Nat.lt_succ_self _)
    | succ rs154 =>
      replace hm := (hst158 _ _ _).symm.trans hm
      try dsimp only at hm
      refine GS.seq ?_
      refine GS.region (env' := fun _ => [(0, .pointer (some ⟨a0b, 0, none⟩)), (2, .int .i64 ((v4_1 : Nat) : Int)), (3, .int .u32 v3_10), (4, .int .i64 ((v4_1 : Nat) : Int)), (9, .int .i64 ((v9_10 : Nat) : Int)), (10, .bool (decide (((v9_10 : Nat) : Int) < 8)))]) (mem' := fun _ => [(1, .cells a0b 60 (([.int .u32 a0.once.done.v, .int .i32 a0.once.m.mu.state, .int .u32 a0.once.m.mu.sema] : List Value) ++ (aU32 c1_3_1 ++ (([.int .i64 a0.calls.v] : List Value)))))]) (RunsTo.mk [] [0, 2, 3, 4, 9, 10] [1] (fun _ => []) (fun _ => by kernel_rfl) (fun _ => trivial)) ?_
      intro _
      refine GS.seq ?_
      refine GS.cond (t := decide (((v9_10 : Nat) : Int) < 8)) rfl rfl (fun _ => ?_) (fun h137 => absb (cnt1 hd134) h137)
      refine GS.skip ?_
      refine GS.seq ?_
      refine GS.block ?_
      refine GS.seq ?_
      refine GS.region (env' := fun _ => [(0, .pointer (some ⟨a0b, 0, none⟩)), (2, .int .i64 ((v4_1 : Nat) : Int)), (3, .int .u32 v3_10), (4, .int .i64 ((v4_1 : Nat) : Int)), (9, .int .i64 ((v9_10 : Nat) : Int)), (13, .bool ((iand .u32 v3_10 1) == 1))]) (mem' := fun _ => [(1, .cells a0b 60 (([.int .u32 a0.once.done.v, .int .i32 a0.once.m.mu.state, .int .u32 a0.once.m.mu.sema] : List Value) ++ (aU32 c1_3_1 ++ (([.int .i64 a0.calls.v] : List Value)))))]) (RunsTo.mk [] [0, 2, 3, 4, 9, 13] [1] (fun _ => []) (fun _ => by kernel_rfl) (fun _ => trivial)) ?_
      intro _
      refine GS.cond (t := (iand .u32 v3_10 1) == 1) rfl rfl (fun h139 => ?_) (fun h139 => ?_)
      · replace hm := br_t h139 hm
        refine GS.region (env' := fun _ => [(0, .pointer (some ⟨a0b, 0, none⟩)), (2, .int .i64 ((v4_1 : Nat) : Int)), (3, .int .u32 (ixor .u32 (Int.fdiv v3_10 (2 ^ 1)) 2197175160)), (4, .int .i64 ((v4_1 : Nat) : Int)), (9, .int .i64 ((v9_10 : Nat) : Int))]) (mem' := fun _ => [(1, .cells a0b 60 (([.int .u32 a0.once.done.v, .int .i32 a0.once.m.mu.state, .int .u32 a0.once.m.mu.sema] : List Value) ++ (aU32 c1_3_1 ++ (([.int .i64 a0.calls.v] : List Value)))))]) (RunsTo.mk [] [0, 2, 3, 4, 9] [1] (fun _ => []) (fun _ => by kernel_rfl) (fun _ => trivial)) ?_
        intro _
        refine GS.inBlock ?_
        refine GS.region (env' := fun _ => [(0, .pointer (some ⟨a0b, 0, none⟩)), (2, .int .i64 ((v4_1 : Nat) : Int)), (3, .int .u32 (ixor .u32 (Int.fdiv v3_10 (2 ^ 1)) 2197175160)), (4, .int .i64 ((v4_1 : Nat) : Int)), (9, .int .i64 ((v9_10 + 1 : Nat) : Int))]) (mem' := fun _ => [(1, .cells a0b 60 (([.int .u32 a0.once.done.v, .int .i32 a0.once.m.mu.state, .int .u32 a0.once.m.mu.sema] : List Value) ++ (aU32 c1_3_1 ++ (([.int .i64 a0.calls.v] : List Value)))))]) (RunsTo.mk [(0, { sp := some (.int .i64 ((v9_10 + 1 : Nat) : Int)) })] [0, 2, 3, 4, 9] [1] (fun _ => [((.int .i64 (IntKind.i64.wrap (((v9_10 : Nat) : Int) + 1))) : Value) = .int .i64 ((v9_10 + 1 : Nat) : Int)]) (fun _ => by kernel_rfl) (fun _ => ⟨natwB (cnt1 hd134) g135, trivial⟩)) ?_
        intro _
        refine GS.inLoop ?_
        refine GS.rekey (env' := [(0, .pointer (some ⟨a0b, 0, none⟩)), (2, .int .i64 ((v4_1 : Nat) : Int)), (3, .int .u32 (ixor .u32 (Int.fdiv v3_10 (2 ^ 1)) 2197175160)), (4, .int .i64 ((v4_1 : Nat) : Int)), (9, .int .i64 ((v9_10 + 1 : Nat) : Int))]) (mem' := [(1, .cells a0b 60 (([.int .u32 a0.once.done.v, .int .i32 a0.once.m.mu.state, .int .u32 a0.once.m.mu.sema] : List Value) ++ (aU32 c1_3_1 ++ (([.int .i64 a0.calls.v] : List Value)))))]) [0, 2, 3, 4, 9] [(1, 1)] (by kernel_rfl) (by kernel_rfl) rfl ?_
        exact ih155 ⟨rs154, (ixor .u32 (Int.fdiv v3_10 (2 ^ 1)) 2197175160), v9_10 + 1⟩ ⟨cntN hd134, hm⟩ (Nat.lt_succ_self _)
      · replace hm := br_f h139 hm
        refine GS.region (env' := fun _ => [(0, .pointer (some ⟨a0b, 0, none⟩)), (2, .int .i64 ((v4_1 : Nat) : Int)), (3, .int .u32 (Int.fdiv v3_10 (2 ^ 1))), (4, .int .i64 ((v4_1 : Nat) : Int)), (9, .int .i64 ((v9_10 : Nat) : Int))]) (mem' := fun _ => [(1, .cells a0b 60 (([.int .u32 a0.once.done.v, .int .i32 a0.once.m.mu.state, .int .u32 a0.once.m.mu.sema] : List Value) ++ (aU32 c1_3_1 ++ (([.int .i64 a0.calls.v] : List Value)))))]) (RunsTo.mk [] [0, 2, 3, 4, 9] [1] (fun _ => []) (fun _ => by kernel_rfl) (fun _ => trivial)) ?_
        intro _
        refine GS.inBlock ?_
        refine GS.region (env' := fun _ => [(0, .pointer (some ⟨a0b, 0, none⟩)), (2, .int .i64 ((v4_1 : Nat) : Int)), (3, .int .u32 (Int.fdiv v3_10 (2 ^ 1))), (4, .int .i64 ((v4_1 : Nat) : Int)), (9, .int .i64 ((v9_10 + 1 : Nat) : Int))]) (mem' := fun _ => [(1, .cells a0b 60 (([.int .u32 a0.once.done.v, .int .i32 a0.once.m.mu.state, .int .u32 a0.once.m.mu.sema] : List Value) ++ (aU32 c1_3_1 ++ (([.int .i64 a0.calls.v] : List Value)))))]) (RunsTo.mk [(0, { sp := some (.int .i64 ((v9_10 + 1 : Nat) : Int)) })] [0, 2, 3, 4, 9] [1] (fun _ => [((.int .i64 (IntKind.i64.wrap (((v9_10 : Nat) : Int) + 1))) : Value) = .int .i64 ((v9_10 + 1 : Nat) : Int)]) (fun _ => by kernel_rfl) (fun _ => ⟨natwB (cnt1 hd134) g135, trivial⟩)) ?_
        intro _
        refine GS.inLoop ?_
        refine GS.rekey (env' := [(0, .pointer (some ⟨a0b, 0, none⟩)), (2, .int .i64 ((v4_1 : Nat) : Int)), (3, .int .u32 (Int.fdiv v3_10 (2 ^ 1))), (4, .int .i64 ((v4_1 : Nat) : Int)), (9, .int .i64 ((v9_10 + 1 : Nat) : Int))]) (mem' := [(1, .cells a0b 60 (([.int .u32 a0.once.done.v, .int .i32 a0.once.m.mu.state, .int .u32 a0.once.m.mu.sema] : List Value) ++ (aU32 c1_3_1 ++ (([.int .i64 a0.calls.v] : List Value)))))]) [0, 2, 3, 4, 9] [(1, 1)] (by kernel_rfl) (by kernel_rfl) rfl ?_
        exact ih155 ⟨rs154, (Int.fdiv v3_10 (2 ^ 1)), v9_10 + 1⟩ ⟨cntN hd134, hm⟩ (Nat.lt_succ_self _)

theorem disable (w : World) : (callFunc 60 #[]).run Try.prog w = .ok (.value (.tuple #[])) w := run_call_mark0 Try.func60 (by kernel_rfl) (by kernel_rfl) (by kernel_rfl) .disable (by kernel_rfl) w
theorem enable (w : World) : (callFunc 62 #[]).run Try.prog w = .ok (.value (.tuple #[])) w := run_call_mark0 Try.func62 (by kernel_rfl) (by kernel_rfl) (by kernel_rfl) .enable (by kernel_rfl) w
theorem acquire (a : Addr) (w : World) : (callFunc 63 #[.pointer (some a)]).run Try.prog w = .ok (.value (.tuple #[])) w := run_call_marked Try.func63 (by kernel_rfl) (by kernel_rfl) (by kernel_rfl) .acquire (by kernel_rfl) a w
theorem releaseMerge (a : Addr) (w : World) : (callFunc 65 #[.pointer (some a)]).run Try.prog w = .ok (.value (.tuple #[])) w := run_call_marked Try.func65 (by kernel_rfl) (by kernel_rfl) (by kernel_rfl) .releaseMerge (by kernel_rfl) a w

theorem store_deferred (a : Addr) (x : Value) (u : FrameMode) (w : World) (hc : w.cell? a = some x) (hz : w.frozen? a = false) :
    CallsD Try.prog 54 #[.pointer (some a), .bool true] u w fun e u' w' => u' = u ∧ (e = .returned (.tuple #[]) ∧ w' = w.drew.setCell a (.int .u32 1)) := by
  have hc' : w.drew.cell? a = some x := by go_simp
  have hz' : w.drew.frozen? a = false := by go_simp
  have hst := run_call_store (P := Try.prog) Try.func58 (by kernel_rfl) (by kernel_rfl) (by kernel_rfl) (by kernel_rfl) (k := .u32) (y := 1) hc' hz'
  go_enter_d Try.func54, Try.ntmps54
  go_wp2
  go_region_calls
  all_goals (go_end0; exact ⟨rfl, rfl⟩)

theorem unlock_deferred (a : Addr) (u : FrameMode) (w : World) (hc : w.cell? a = some (.int .i32 1)) (hz : w.frozen? a = false) :
    CallsD Try.prog 53 #[.pointer (some a)] u w fun e u' w' => u' = u ∧ (e = .returned (.tuple #[]) ∧ w' = w.setCell a (.int .i32 0)) := by
  have hd := disable
  have he := enable
  have hr := releaseMerge
  have hadd := run_call_add (P := Try.prog) Try.func66 (by kernel_rfl) (by kernel_rfl) (by kernel_rfl) .i32 (by kernel_rfl) (y := -1) (s := 0) hc hz (by simp [go_sem]; rfl)
  have hcv := run_convert_to_unsafe (P := Try.prog) (src := 107) (dst := 111) Try.underlying107 Try.underlying111 (by kernel_rfl) hc
  go_enter_d Try.func53, Try.ntmps53
  go_wp2
  go_end0
  go_wp2
  go_end0
  exact ⟨rfl, rfl⟩

theorem lock_free (a : Addr) (w : World) (hc : w.cell? a = some (.int .i32 0)) (hz : w.frozen? a = false) :
    Calls Try.prog 52 #[.pointer (some a)] w fun e w' => e = .returned (.tuple #[]) ∧ w' = w.setCell a (.int .i32 1) := by
  have hd := disable
  have he := enable
  have ha := acquire
  have hcas := run_call_cas_hit (P := Try.prog) Try.func61 (by kernel_rfl) (by kernel_rfl) (by kernel_rfl) .i32 (by kernel_rfl) (y := 1) hc hz
  have hc' : (w.setCell a (.int .i32 1)).cell? a = some (.int .i32 1) := World.cell?_setCell_same w a _ hc
  have hcv := run_convert_to_unsafe (P := Try.prog) (src := 107) (dst := 111) Try.underlying107 Try.underlying111 (by kernel_rfl) hc'
  go_enter Try.func52, Try.ntmps52
  go_wp2
  first | go_end0 | (simp only [Exit.inBlock, Exit.then]; refine bodyPost_ret (results_none rfl _ _ _) rfl ?_) | refine bodyPost_ret (results_none rfl _ _ _) rfl ?_
  go_wp2
  go_end0
  exact ⟨rfl, rfl⟩

set_option maxRecDepth 100000 in
set_option maxHeartbeats 1600000 in
/-- '(*sync.Once).doSlow': the lock is taken, the function is called, 'done' is stored, the lock is let go. -/
theorem slow_any (b : Nat) (R : World → Prop) (w : World)
    (h0 : w.cell? ⟨b, 0, none⟩ = some (.int .u32 0)) (h1 : w.cell? ⟨b, 0 + 1, none⟩ = some (.int .i32 0)) (f0 : w.frozen? ⟨b, 0, none⟩ = false) (f1 : w.frozen? ⟨b, 0 + 1, none⟩ = false)
    (hf : Calls Try.prog 29 #[.pointer (some ⟨b, 0, none⟩)] (w.setCell ⟨b, 0 + 1, none⟩ (.int .i32 1)) fun e w' => e = .returned (.tuple #[]) ∧ R w')
    (hR : ∀ w', R w' → w'.cell? ⟨b, 0, none⟩ = some (.int .u32 0) ∧ w'.cell? ⟨b, 0 + 1, none⟩ = some (.int .i32 1) ∧ w'.frozen? ⟨b, 0, none⟩ = false ∧ w'.frozen? ⟨b, 0 + 1, none⟩ = false) :
    Calls Try.prog 44 #[.pointer (some ⟨b, 0, none⟩), .func (.func 29) #[.pointer (some ⟨b, 0, none⟩)] #[]] w fun e w' => e = .returned (.tuple #[]) ∧
      ∃ w1, R w1 ∧ w' = (w1.drew.setCell ⟨b, 0, none⟩ (.int .u32 1)).setCell ⟨b, 0 + 1, none⟩ (.int .i32 0) := by
  have hl := run_call_load (P := Try.prog) Try.func51 (by kernel_rfl) (by kernel_rfl) (by kernel_rfl) .u32 (by kernel_rfl) (w := w.setCell ⟨b, 0 + 1, none⟩ (.int .i32 1)) (a := ⟨b, 0, none⟩) (x := 0) ((World.cell?_setCell_other _ ⟨b, 0 + 1, none⟩ ⟨b, 0, none⟩ _ (by simp)).trans h0)
  have hnot : ∀ (x : Bool) (w : World), (Op.unary .not (.bool x)).run Try.prog w = .ok (.bool (!x)) w := fun _ _ => rfl
  go_enter_defers Try.func44, Try.ntmps44
  go_wp2_with (first | (go_at_call 52; refine (lock_free ⟨b, 0 + 1, none⟩ _ h1 f1).mono ?_; rintro e w' ⟨rfl, rfl⟩) | (go_at_call 29; refine hf.mono ?_; rintro e w1 ⟨rfl, hw1⟩; obtain ⟨r0, r1, z0, z1⟩ := hR _ hw1) | (go_at_call 43; go_in))
  go_wp2
  refine leaves_cons (f := 54) (args := #[.pointer (some ⟨b, 0, none⟩), .bool true]) (by simp) (by simp [go_sem]) ?_
  refine (store_deferred ⟨b, 0, none⟩ (.int .u32 0) .returning _ r0 z0).mono ?_
  rintro e u' w'' ⟨rfl, rfl, rfl⟩
  refine leaves_cons (f := 53) (args := #[.pointer (some ⟨b, 0 + 1, none⟩)]) (by simp [settle]) (by simp [go_sem]) ?_
  refine (unlock_deferred ⟨b, 0 + 1, none⟩ _ _ ?_ (by simp [z1])).mono ?_
  · refine (World.cell?_setCell_other _ ⟨b, 0, none⟩ ⟨b, 0 + 1, none⟩ _ (by simp)).trans ?_
    rw [World.cell?_drew]
    exact r1
  rintro e u' w'' ⟨rfl, rfl, rfl⟩
  simp [Leaves, settle, results, Try.results44]
  exact ⟨_, hw1, rfl⟩

set_option maxRecDepth 100000 in
set_option maxHeartbeats 1600000 in
theorem do_first (b : Nat) (R : World → Prop) (w : World)
    (h0 : w.cell? ⟨b, 0, none⟩ = some (.int .u32 0)) (h1 : w.cell? ⟨b, 0 + 1, none⟩ = some (.int .i32 0)) (f0 : w.frozen? ⟨b, 0, none⟩ = false) (f1 : w.frozen? ⟨b, 0 + 1, none⟩ = false)
    (hf : Calls Try.prog 29 #[.pointer (some ⟨b, 0, none⟩)] (w.setCell ⟨b, 0 + 1, none⟩ (.int .i32 1)) fun e w' => e = .returned (.tuple #[]) ∧ R w')
    (hR : ∀ w', R w' → w'.cell? ⟨b, 0, none⟩ = some (.int .u32 0) ∧ w'.cell? ⟨b, 0 + 1, none⟩ = some (.int .i32 1) ∧ w'.frozen? ⟨b, 0, none⟩ = false ∧ w'.frozen? ⟨b, 0 + 1, none⟩ = false) :
    Calls Try.prog 28 #[.pointer (some ⟨b, 0, none⟩), .func (.func 29) #[.pointer (some ⟨b, 0, none⟩)] #[]] w fun e w' => e = .returned (.tuple #[]) ∧
      ∃ w1, R w1 ∧ w' = (w1.drew.setCell ⟨b, 0, none⟩ (.int .u32 1)).setCell ⟨b, 0 + 1, none⟩ (.int .i32 0) := by
  have hl := run_call_load (P := Try.prog) Try.func51 (by kernel_rfl) (by kernel_rfl) (by kernel_rfl) .u32 (by kernel_rfl) h0
  have hnot : ∀ (x : Bool) (w : World), (Op.unary .not (.bool x)).run Try.prog w = .ok (.bool (!x)) w := fun _ _ => rfl
  go_enter Try.func28, Try.ntmps28
  go_wp2_with (first | (go_at_call 44; refine (slow_any b R _ h0 h1 f0 f1 hf hR).mono ?_; rintro e w' ⟨rfl, hw1⟩) | (go_at_call 43; go_in))
  go_end0
  exact ⟨rfl, hw1⟩

theorem do_done (a : Addr) (fv : Value) (w : World) (h0 : w.cell? a = some (.int .u32 1)) :
    Calls Try.prog 28 #[.pointer (some a), fv] w fun e w' => e = .returned (.tuple #[]) ∧ w' = w := by
  have hl := run_call_load (P := Try.prog) Try.func51 (by kernel_rfl) (by kernel_rfl) (by kernel_rfl) .u32 (by kernel_rfl) h0
  have hnot : ∀ (x : Bool) (w : World), (Op.unary .not (.bool x)).run Try.prog w = .ok (.bool (!x)) w := fun _ _ => rfl
  go_enter Try.func28, Try.ntmps28
  go_wp2
  go_end0
  exact ⟨rfl, rfl⟩

theorem do_ok (F : Nat) (b : Nat) (d st se : Int) (L : List Int) (c : Int) {y : List Int} (hm : m_once F d st se L c = some y) :
    CallG Try.prog 28 #[.pointer (some ⟨b, 0, none⟩), .func (.func 29) #[.pointer (some ⟨b, 0, none⟩)] #[]] (fun _ : Unit => .tuple #[]) [.cells b 60 (ecells d st se L c)] [] (fun _ : Unit => [.cells b 60 (ecells 1 0 se y c)]) := by
  intro w hg
  have hE := good_one hg
  rw [m_once] at hm
  refine grd_elim hm (fun hst hm => ?_)
  refine grd_elim hm (fun hL hm => ?_)
  refine br_elim hm (fun hd hm => ?_) (fun hd hm => ?_)
  · have hd := beq_iff_eq.1 hd
    have hy := Option.some.inj hm
    subst hy hd hst
    exact (do_done ⟨b, 0, none⟩ _ w (cells_cell hE 0)).mono fun e w' ⟨he, hw⟩ => ⟨(), he, by subst hw; exact turns_cells (Keep.refl _ _) hE⟩
  · refine grd_elim hm (fun hd0 hm => ?_)
    refine bnd_elim hm (fun z hz hm => ?_)
    refine grd_elim hm (fun hq hm => ?_)
    have hy := Option.some.inj hm
    subst hy hd0 hst
    obtain ⟨q1, q2, q3, q4, q5⟩ := hq
    have s1 := cells_set hE 1 (.int .i32 1)
    have e1 : (ecells 0 0 se L c).set 1 (.int .i32 1) = ecells 0 1 se L c := rfl
    rw [e1] at s1
    have hgood : GoodG [.cells b 60 (ecells 0 1 se L c)] [] (w.setCell ⟨b, 1, none⟩ (.int .i32 1)) := by
      refine ⟨fun e he => by rw [List.mem_singleton.1 he]; exact s1.1, fun e he => (by cases he), fun i j e e' hne hi hj => ?_, fun e _ e' he' => (by cases he')⟩
      have h1 := (List.getElem?_eq_some_iff.1 hi).1
      have h2 := (List.getElem?_eq_some_iff.1 hj).1
      simp at h1 h2
      omega
    have hmake := w___digest_Engine__make F b (S_digest_Engine.mk (S_sync_Once.mk S_sync_noCopy.mk (S_atomic_Bool.mk S_atomic_noCopy.mk 0) (S_sync_Mutex'.mk S_sync_noCopy.mk (S_sync_Mutex.mk 1 se))) L (S_atomic_Int64.mk S_atomic_noCopy.mk S_atomic_align64.mk c)) hz (w.setCell ⟨b, 1, none⟩ (.int .i32 1)) hgood
    have hf : Calls Try.prog 29 #[.pointer (some ⟨b, 0, none⟩)] (w.setCell ⟨b, 0 + 1, none⟩ (.int .i32 1)) fun e w' => e = .returned (.tuple #[]) ∧ (Keep (fun k => k = b) w w' ∧ (Ent.cells b 60 (ecells 0 1 se z.table c)).ok w') := by
      refine hmake.mono fun e w' ⟨_, he, ht⟩ => ⟨he, ?_, ?_⟩
      · refine keep_tr s1.2 (ht.keep.mono fun k _ ⟨e0, h0, hk⟩ => ?_)
        rw [List.mem_singleton.1 h0] at hk
        exact hk
      · have := ht.ok _ (List.mem_singleton.2 rfl)
        rw [q1, q2, q3, q4] at this
        exact this
    refine (do_first b _ w (cells_cell hE 0) (cells_cell hE 1) (cells_frozen hE (i := 0) (by rw [ecells_len hL]; omega)) (cells_frozen hE (i := 1) (by rw [ecells_len hL]; omega)) hf (fun w' ⟨_, hok⟩ => ⟨cells_cell hok 0, cells_cell hok 1, cells_frozen hok (i := 0) (by rw [ecells_len q5]; omega), cells_frozen hok (i := 1) (by rw [ecells_len q5]; omega)⟩)).mono fun e w' ⟨he, w1, ⟨hk, hok⟩, hw⟩ => ⟨(), he, ?_⟩
    subst hw
    have t1 := cells_set (cells_drew hok) 0 (.int .u32 1)
    have t2 := cells_set t1.1 1 (.int .i32 0)
    exact turns_cells (keep_tr hk (keep_tr (keep_drew _ w1) (keep_tr t1.2 t2.2))) t2.1

theorem w___digest_Engine__Crc (F : Nat) (a0b : Nat) (a0 : S_digest_Engine) (a1_o : Option Addr) (a1_c : Nat) (a1 : List UInt8) {y : Int × S_digest_Engine} (hm : m___digest_Engine__Crc F a0 a1 = some y) : CallG Try.prog 13 #[.pointer (some ⟨a0b, 0, none⟩), .slice a1_o a1.length a1_c] (X := Unit) (fun (_ : Unit) => .int .u32 y.1) [.cells a0b 60 (([.int .u32 a0.once.done.v, .int .i32 a0.once.m.mu.state, .int .u32 a0.once.m.mu.sema] : List Value) ++ (aU32 a0.table ++ (([.int .i64 a0.calls.v] : List Value))))] [r5 a1_o a1] (fun (_ : Unit) => [.cells a0b 60 (([.int .u32 y.2.once.done.v, .int .i32 y.2.once.m.mu.state, .int .u32 y.2.once.m.mu.sema] : List Value) ++ (aU32 y.2.table ++ (([.int .i64 y.2.calls.v] : List Value))))]) := by
  intro w hg
  rw [m___digest_Engine__Crc] at hm
  refine GS.start (S := mayT [.cells a0b 60 (([.int .u32 a0.once.done.v, .int .i32 a0.once.m.mu.state, .int .u32 a0.once.m.mu.sema] : List Value) ++ (aU32 a0.table ++ (([.int .i64 a0.calls.v] : List Value))))] [r5 a1_o a1]) (mem := [(1, .cells a0b 60 (([.int .u32 a0.once.done.v, .int .i32 a0.once.m.mu.state, .int .u32 a0.once.m.mu.sema] : List Value) ++ (aU32 a0.table ++ (([.int .i64 a0.calls.v] : List Value))))), (2, r5 a1_o a1)]) Try.func13 rfl Try.ntmps13 (Nat.le_of_ble_eq_true rfl) (hg.start rfl) ?_
  refine GS.conv (env' := [(0, .pointer (some ⟨a0b, 0, none⟩)), (1, .slice a1_o a1.length a1_c)]) rfl rfl ?_
  refine GS.seq ?_
  refine GS.region (env' := fun _ => [(0, .pointer (some ⟨a0b, 0, none⟩)), (1, .slice a1_o a1.length a1_c)]) (mem' := fun _ => [(1, .cells a0b 60 (([.int .u32 a0.once.done.v, .int .i32 a0.once.m.mu.state, .int .u32 a0.once.m.mu.sema] : List Value) ++ (aU32 a0.table ++ (([.int .i64 a0.calls.v] : List Value))))), (2, r5 a1_o a1)]) (RunsTo.mk [] [0, 1] [1, 2] (fun _ => []) (fun _ => by kernel_rfl) (fun _ => trivial)) ?_
  intro _
  refine GS.seq ?_
  refine GS.seq ?_
  refine GS.region (env' := fun _ => [(0, .pointer (some ⟨a0b, 0, none⟩)), (1, .slice a1_o a1.length a1_c), (9, .bool false)]) (mem' := fun _ => [(1, .cells a0b 60 (([.int .u32 a0.once.done.v, .int .i32 a0.once.m.mu.state, .int .u32 a0.once.m.mu.sema] : List Value) ++ (aU32 a0.table ++ (([.int .i64 a0.calls.v] : List Value))))), (2, r5 a1_o a1)]) (RunsTo.mk [] [0, 1, 9] [1, 2] (fun _ => []) (fun _ => by kernel_rfl) (fun _ => trivial)) ?_
  intro _
  refine GS.cond (t := false) rfl rfl (fun hf => by cases hf) (fun _ => ?_)
  refine GS.skip ?_
  refine GS.seq ?_
  refine grd_elim hm (fun g4 hm => ?_)
  refine GS.open_ ?_
  refine GR.run (i := 0) 3 (env' := fun _ => [(0, .pointer (some ⟨a0b, 0, none⟩)), (1, .slice a1_o a1.length a1_c), (12, .pointer (some ⟨a0b, 259, none⟩))]) (mem' := fun _ => [(1, .cells a0b 60 (([.int .u32 a0.once.done.v, .int .i32 a0.once.m.mu.state, .int .u32 a0.once.m.mu.sema] : List Value) ++ (aU32 a0.table ++ (([.int .i64 a0.calls.v] : List Value))))), (2, r5 a1_o a1)]) (Nat.le_of_ble_eq_true (by kernel_rfl)) (RunsTo.mk [] [0, 1, 12] [1, 2] (fun _ => []) (fun _ => by kernel_rfl) (fun _ => trivial)) ?_
  intro _
  refine GR.callG (X := Unit) (i := 3) (g := 27) (args := #[.pointer (some ⟨a0b, 259, none⟩), .int .i64 1]) (v := fun (_ : Unit) => .int .i64 (IntKind.i64.wrap (a0.calls.v + 1))) (own := [.cells a0b 60 (([.int .u32 a0.once.done.v, .int .i32 a0.once.m.mu.state, .int .u32 a0.once.m.mu.sema] : List Value) ++ (aU32 a0.table ++ (([.int .i64 a0.calls.v] : List Value))))]) (ro := []) (es' := fun (_ : Unit) => [.cells a0b 60 (([.int .u32 a0.once.done.v, .int .i32 a0.once.m.mu.state, .int .u32 a0.once.m.mu.sema] : List Value) ++ (aU32 a0.table ++ (([.int .i64 (IntKind.i64.wrap (a0.calls.v + 1))] : List Value))))]) (mem' := fun (_ : Unit) => [(1, .cells a0b 60 (([.int .u32 a0.once.done.v, .int .i32 a0.once.m.mu.state, .int .u32 a0.once.m.mu.sema] : List Value) ++ (aU32 a0.table ++ (([.int .i64 (IntKind.i64.wrap (a0.calls.v + 1))] : List Value))))), (2, r5 a1_o a1)]) (env' := fun (_ : Unit) => [(0, .pointer (some ⟨a0b, 0, none⟩)), (1, .slice a1_o a1.length a1_c)]) [1] [1] [0, 1] [1, 2] false (by kernel_rfl) (by kernel_rfl) (by kernel_rfl) (by kernel_rfl) (by kernel_rfl) (fun _ => rfl) (fun _ _ => rfl) trivial (by rintro _; kernel_rfl) (by rintro _; kernel_rfl) (add_ok a0b a0.once.done.v a0.once.m.mu.state a0.once.m.mu.sema a0.table a0.calls.v 1 g4) ?_
  rintro _
  refine GR.done (Nat.le_of_ble_eq_true (by kernel_rfl)) ?_
  refine GS.seq ?_
  refine bnd_elim hm (fun y7 e8 hm => ?_)
  refine GS.open_ ?_
  refine GR.run (i := 0) 5 (env' := fun _ => [(0, .pointer (some ⟨a0b, 0, none⟩)), (1, .slice a1_o a1.length a1_c), (16, .pointer (some ⟨a0b, 0, none⟩)), (18, .func (.func 29) #[.pointer (some ⟨a0b, 0, none⟩)] #[])]) (mem' := fun _ => [(1, .cells a0b 60 (([.int .u32 a0.once.done.v, .int .i32 a0.once.m.mu.state, .int .u32 a0.once.m.mu.sema] : List Value) ++ (aU32 a0.table ++ (([.int .i64 (IntKind.i64.wrap (a0.calls.v + 1))] : List Value))))), (2, r5 a1_o a1)]) (Nat.le_of_ble_eq_true (by kernel_rfl)) (RunsTo.mk [] [0, 1, 16, 18] [1, 2] (fun _ => []) (fun _ => by kernel_rfl) (fun _ => trivial)) ?_
  intro _
  refine GR.callG (X := Unit) (i := 5) (g := 28) (args := #[.pointer (some ⟨a0b, 0, none⟩), .func (.func 29) #[.pointer (some ⟨a0b, 0, none⟩)] #[]]) (v := fun (_ : Unit) => .tuple #[]) (own := [.cells a0b 60 (([.int .u32 a0.once.done.v, .int .i32 a0.once.m.mu.state, .int .u32 a0.once.m.mu.sema] : List Value) ++ (aU32 a0.table ++ (([.int .i64 (IntKind.i64.wrap (a0.calls.v + 1))] : List Value))))]) (ro := []) (es' := fun (_ : Unit) => [.cells a0b 60 (([.int .u32 1, .int .i32 0, .int .u32 a0.once.m.mu.sema] : List Value) ++ (aU32 y7 ++ (([.int .i64 (IntKind.i64.wrap (a0.calls.v + 1))] : List Value))))]) (mem' := fun (_ : Unit) => [(1, .cells a0b 60 (([.int .u32 1, .int .i32 0, .int .u32 a0.once.m.mu.sema] : List Value) ++ (aU32 y7 ++ (([.int .i64 (IntKind.i64.wrap (a0.calls.v + 1))] : List Value))))), (2, r5 a1_o a1)]) (env' := fun (_ : Unit) => [(0, .pointer (some ⟨a0b, 0, none⟩)), (1, .slice a1_o a1.length a1_c)]) [1] [1] [0, 1] [1, 2] false (by kernel_rfl) (by kernel_rfl) (by kernel_rfl) (by kernel_rfl) (by kernel_rfl) (fun _ => rfl) (fun _ _ => rfl) trivial (by rintro _; kernel_rfl) (by rintro _; kernel_rfl) (do_ok F a0b a0.once.done.v a0.once.m.mu.state a0.once.m.mu.sema a0.table (IntKind.i64.wrap (a0.calls.v + 1)) e8) ?_
  rintro _
  refine GR.done (Nat.le_of_ble_eq_true (by kernel_rfl)) ?_
  refine GS.seq ?_
  refine GS.region (env' := fun _ => [(0, .pointer (some ⟨a0b, 0, none⟩)), (1, .slice a1_o a1.length a1_c), (5, .int .u32 4294967295)]) (mem' := fun _ => [(1, .cells a0b 60 (([.int .u32 1, .int .i32 0, .int .u32 a0.once.m.mu.sema] : List Value) ++ (aU32 y7 ++ (([.int .i64 (IntKind.i64.wrap (a0.calls.v + 1))] : List Value))))), (2, r5 a1_o a1)]) (RunsTo.mk [] [0, 1, 5] [1, 2] (fun _ => []) (fun _ => by kernel_rfl) (fun _ => trivial)) ?_
  intro _
  refine GS.seq ?_
  refine GS.seq ?_
  refine GS.region (env' := fun _ => [(0, .pointer (some ⟨a0b, 0, none⟩)), (5, .int .u32 4294967295), (20, .slice a1_o a1.length a1_c), (21, .int .i64 ((a1.length : Nat) : Int)), (22, .int .i64 0)]) (mem' := fun _ => [(1, .cells a0b 60 (([.int .u32 1, .int .i32 0, .int .u32 a0.once.m.mu.sema] : List Value) ++ (aU32 y7 ++ (([.int .i64 (IntKind.i64.wrap (a0.calls.v + 1))] : List Value))))), (2, r5 a1_o a1)]) (RunsTo.mk [] [0, 5, 20, 21, 22] [1, 2] (fun _ => []) (fun _ => by kernel_rfl) (fun _ => trivial)) ?_
  intro _
  refine GS.block ?_
  refine GS.loop ?_
  refine grd_elim hm (fun g32 hm => ?_)
  refine GS.rekey (env' := [(0, .pointer (some ⟨a0b, 0, none⟩)), (5, .int .u32 4294967295), (20, .slice a1_o a1.length a1_c), (21, .int .i64 ((a1.length : Nat) : Int)), (22, .int .i64 0)]) (mem' := [(1, .cells a0b 60 (([.int .u32 1, .int .i32 0, .int .u32 a0.once.m.mu.sema] : List Value) ++ (aU32 y7 ++ (([.int .i64 (IntKind.i64.wrap (a0.calls.v + 1))] : List Value))))), (2, r5 a1_o a1)]) [0, 5, 20, 21, 22] [(1, 1), (2, 2)] (by kernel_rfl) (by kernel_rfl) rfl ?_
  refine loopL_elim hm (fun st48 fn49 hst50 hfn51 hm => ?_)
  refine GS.loopInv (ι := List UInt8 × Int × Nat) (I := fun ⟨rs46, v5_1, v22_1⟩ => a1.drop v22_1 = rs46 ∧ loopL st48 fn49 rs46 v22_1 v5_1 = some y) (μ := fun ⟨rs46, v5_1, v22_1⟩ => rs46.length) (E := fun ⟨rs46, v5_1, v22_1⟩ => [(0, .pointer (some ⟨a0b, 0, none⟩)), (5, .int .u32 v5_1), (20, .slice a1_o a1.length a1_c), (21, .int .i64 ((a1.length : Nat) : Int)), (22, .int .i64 ((v22_1 : Nat) : Int))]) (M := fun ⟨rs46, v5_1, v22_1⟩ => [(1, .cells a0b 60 (([.int .u32 1, .int .i32 0, .int .u32 a0.once.m.mu.sema] : List Value) ++ (aU32 y7 ++ (([.int .i64 (IntKind.i64.wrap (a0.calls.v + 1))] : List Value))))), (2, r5 a1_o a1)]) ?_ ⟨a1, 4294967295, 0⟩ ⟨List.drop_zero .., hm⟩
  rintro ⟨rs46, v5_1, v22_1⟩ ⟨hd31, hm⟩ ih47
  cases rs46 with
  | nil =>
    replace hm := (hfn51 _ _).symm.trans hm
    try dsimp only at hm
    refine GS.seq ?_
    refine GS.region (env' := fun _ => [(0, .pointer (some ⟨a0b, 0, none⟩)), (5, .int .u32 v5_1), (20, .slice a1_o a1.length a1_c), (21, .int .i64 ((a1.length : Nat) : Int)), (22, .int .i64 ((v22_1 : Nat) : Int)), (23, .bool (decide (((v22_1 : Nat) : Int) < ((a1.length : Nat) : Int))))]) (mem' := fun _ => [(1, .cells a0b 60 (([.int .u32 1, .int .i32 0, .int .u32 a0.once.m.mu.sema] : List Value) ++ (aU32 y7 ++ (([.int .i64 (IntKind.i64.wrap (a0.calls.v + 1))] : List Value))))), (2, r5 a1_o a1)]) (RunsTo.mk [] [0, 5, 20, 21, 22, 23] [1, 2] (fun _ => []) (fun _ => by kernel_rfl) (fun _ => trivial)) ?_
    intro _
    refine GS.seq ?_
    refine GS.cond (t := decide (((v22_1 : Nat) : Int) < ((a1.length : Nat) : Int))) rfl rfl (fun h44 => absb h44 (drop_dec0 hd31)) (fun _ => ?_)
    refine GS.exit rfl ?_
    refine GS.seq ?_
    refine GS.region (env' := fun _ => [(4, .int .u32 (ixor .u32 4294967295 v5_1))]) (mem' := fun _ => [(1, .cells a0b 60 (([.int .u32 1, .int .i32 0, .int .u32 a0.once.m.mu.sema] : List Value) ++ (aU32 y7 ++ (([.int .i64 (IntKind.i64.wrap (a0.calls.v + 1))] : List Value)))))]) (RunsTo.mk [] [4] [1] (fun _ => []) (fun _ => by kernel_rfl) (fun _ => trivial)) ?_
    intro _
    have hy := Option.some.inj hm
    subst hy
    refine GS.ret (fn := Try.f13) [0] [.int .u32 (ixor .u32 4294967295 v5_1)] [] rfl Try.func13 (by kernel_rfl) trivial (fun w' hs => ?_)
    exact ⟨(), rfl, hs.turnedG (ks := [1]) rfl rfl⟩
  | cons x33 rs46 =>
    replace hm := (hst50 _ _ _ _).symm.trans hm
    try dsimp only at hm
    refine GS.seq ?_
    refine GS.region (env' := fun _ => [(0, .pointer (some ⟨a0b, 0, none⟩)), (5, .int .u32 v5_1), (20, .slice a1_o a1.length a1_c), (21, .int .i64 ((a1.length : Nat) : Int)), (22, .int .i64 ((v22_1 : Nat) : Int)), (23, .bool (decide (((v22_1 : Nat) : Int) < ((a1.length : Nat) : Int))))]) (mem' := fun _ => [(1, .cells a0b 60 (([.int .u32 1, .int .i32 0, .int .u32 a0.once.m.mu.sema] : List Value) ++ (aU32 y7 ++ (([.int .i64 (IntKind.i64.wrap (a0.calls.v + 1))] : List Value))))), (2, r5 a1_o a1)]) (RunsTo.mk [] [0, 5, 20, 21, 22, 23] [1, 2] (fun _ => []) (fun _ => by kernel_rfl) (fun _ => trivial)) ?_
    intro _
    refine GS.seq ?_
    refine GS.cond (t := decide (((v22_1 : Nat) : Int) < ((a1.length : Nat) : Int))) rfl rfl (fun _ => ?_) (fun h35 => absb (drop_dec hd31) h35)
    refine GS.skip ?_
    refine GS.seq ?_
    refine GS.block ?_
    refine GS.seq ?_
    refine GS.region (env' := fun _ => [(0, .pointer (some ⟨a0b, 0, none⟩)), (5, .int .u32 v5_1), (7, .int .u8 ((x33.toNat : Nat) : Int)), (20, .slice a1_o a1.length a1_c), (21, .int .i64 ((a1.length : Nat) : Int)), (22, .int .i64 ((v22_1 : Nat) : Int))]) (mem' := fun _ => [(1, .cells a0b 60 (([.int .u32 1, .int .i32 0, .int .u32 a0.once.m.mu.sema] : List Value) ++ (aU32 y7 ++ (([.int .i64 (IntKind.i64.wrap (a0.calls.v + 1))] : List Value))))), (2, r5 a1_o a1)]) (RunsTo.mk [(0, { act := .idx 2 v22_1 }), (1, { act := .load 2 v22_1 0 [.int .u8 ((x33.toNat : Nat) : Int)] })] [0, 5, 7, 20, 21, 22] [1, 2] (fun _ => [a1_o = a1_o, a1.length = (List.map rB a1).length, (((v22_1 : Nat) : Int) : Int) = ((v22_1 : Nat) : Int), v22_1 < a1.length, blk a1_o = blk a1_o, offs a1_o + v22_1 * 1 = offs a1_o + (v22_1 * 1 + 0), (List.map rB a1)[v22_1]? = some [.int .u8 ((x33.toNat : Nat) : Int)]]) (fun _ => by kernel_rfl) (fun _ => ⟨rfl, mlen rB a1, rfl, (drop_lt hd31), rfl, rfl, map_drop rB hd31, trivial⟩)) ?_
    intro _
    refine grd_elim hm (fun g38 hm => ?_)
    refine grd_elim hm (fun g39 hm => ?_)
    refine GS.region (env' := fun _ => [(0, .pointer (some ⟨a0b, 0, none⟩)), (5, .int .u32 (ixor .u32 (Int.fdiv v5_1 (2 ^ 8)) (y7.getD (Int.toNat (ixor .u8 (IntKind.u8.wrap v5_1) ((x33.toNat : Nat) : Int))) 0))), (20, .slice a1_o a1.length a1_c), (21, .int .i64 ((a1.length : Nat) : Int)), (22, .int .i64 ((v22_1 : Nat) : Int))]) (mem' := fun _ => [(1, .cells a0b 60 (([.int .u32 1, .int .i32 0, .int .u32 a0.once.m.mu.sema] : List Value) ++ (aU32 y7 ++ (([.int .i64 (IntKind.i64.wrap (a0.calls.v + 1))] : List Value))))), (2, r5 a1_o a1)]) (RunsTo.mk [(9, { act := .arr (Int.toNat (ixor .u8 (IntKind.u8.wrap v5_1) ((x33.toNat : Nat) : Int))) }), (10, { act := .loadC 1 [.int .u32 (y7.getD (Int.toNat (ixor .u8 (IntKind.u8.wrap v5_1) ((x33.toNat : Nat) : Int))) 0)] })] [0, 5, 20, 21, 22] [1, 2] (fun _ => [((ixor .u8 (IntKind.u8.wrap v5_1) ((x33.toNat : Nat) : Int)) : Int) = (((Int.toNat (ixor .u8 (IntKind.u8.wrap v5_1) ((x33.toNat : Nat) : Int))) : Nat) : Int), (Int.toNat (ixor .u8 (IntKind.u8.wrap v5_1) ((x33.toNat : Nat) : Int))) < 256, a0b = a0b, (([.int .u32 1, .int .i32 0, .int .u32 a0.once.m.mu.sema] : List Value) ++ (aU32 y7 ++ (([.int .i64 (IntKind.i64.wrap (a0.calls.v + 1))] : List Value))))[3 + (Int.toNat (ixor .u8 (IntKind.u8.wrap v5_1) ((x33.toNat : Nat) : Int))) * 1]? = some (.int .u32 (y7.getD (Int.toNat (ixor .u8 (IntKind.u8.wrap v5_1) ((x33.toNat : Nat) : Int))) 0))]) (fun _ => by kernel_rfl) (fun _ => ⟨g38.eq, g38.2, rfl, aU32_at2 (pre := ([.int .u32 1, .int .i32 0, .int .u32 a0.once.m.mu.sema] : List Value)) (m := 3) rfl g39 (by omega), trivial⟩)) ?_
    intro _
    refine GS.inBlock ?_
    refine bnd_elim hm (fun y40 e41 hm => ?_)
    refine GS.conv (env' := [(0, .pointer (some ⟨a0b, 0, none⟩)), (5, .int .u32 y40), (20, .slice a1_o a1.length a1_c), (21, .int .i64 ((a1.length : Nat) : Int)), (22, .int .i64 ((v22_1 : Nat) : Int))]) (congrArg (fun vhole : Int => ([(0, .pointer (some ⟨a0b, 0, none⟩)), (5, .int .u32 vhole), (20, .slice a1_o a1.length a1_c), (21, .int .i64 ((a1.length : Nat) : Int)), (22, .int .i64 ((v22_1 : Nat) : Int))] : List (Nat × Value))) (Option.some.inj e41)) rfl ?_
    refine GS.region (env' := fun _ => [(0, .pointer (some ⟨a0b, 0, none⟩)), (5, .int .u32 y40), (20, .slice a1_o a1.length a1_c), (21, .int .i64 ((a1.length : Nat) : Int)), (22, .int .i64 ((v22_1 + 1 : Nat) : Int))]) (mem' := fun _ => [(1, .cells a0b 60 (([.int .u32 1, .int .i32 0, .int .u32 a0.once.m.mu.sema] : List Value) ++ (aU32 y7 ++ (([.int .i64 (IntKind.i64.wrap (a0.calls.v + 1))] : List Value))))), (2, r5 a1_o a1)]) (RunsTo.mk [(0, { sp := some (.int .i64 ((v22_1 + 1 : Nat) : Int)) })] [0, 5, 20, 21, 22] [1, 2] (fun _ => [((.int .i64 (IntKind.i64.wrap (((v22_1 : Nat) : Int) + 1))) : Value) = .int .i64 ((v22_1 + 1 : Nat) : Int)]) (fun _ => by kernel_rfl) (fun _ => ⟨natw (drop_lt hd31) g32, trivial⟩)) ?_
    intro _
    refine GS.inLoop ?_
    refine GS.rekey (env' := [(0, .pointer (some ⟨a0b, 0, none⟩)), (5, .int .u32 y40), (20, .slice a1_o a1.length a1_c), (21, .int .i64 ((a1.length : Nat) : Int)), (22, .int .i64 ((v22_1 + 1 : Nat) : Int))]) (mem' := [(1, .cells a0b 60 (([.int .u32 1, .int .i32 0, .int .u32 a0.once.m.mu.sema] : List Value) ++ (aU32 y7 ++ (([.int .i64 (IntKind.i64.wrap (a0.calls.v + 1))] : List Value))))), (2, r5 a1_o a1)]) [0, 5, 20, 21, 22] [(1, 1), (2, 2)] (by kernel_rfl) (by kernel_rfl) rfl ?_
    exact ih47 ⟨rs46, y40, v22_1 + 1⟩ ⟨drop_next hd31, hm⟩ (Nat.lt_succ_self _)

theorem w_digest_rounds (F : Nat) {y : List Int} (hm : m_digest_rounds F = some y) : CallG Try.prog 45 #[] (X := Unit) (fun (_ : Unit) => .agg (aU32 y).toArray) [] [] (fun (_ : Unit) => []) := by
  intro w hg
  rw [m_digest_rounds] at hm
  refine GS.start (S := mayT [] []) (mem := []) Try.func45 rfl Try.ntmps45 (Nat.le_of_ble_eq_true rfl) (hg.start rfl) ?_
  refine GS.conv (env' := []) rfl rfl ?_
  refine GS.seq ?_
  refine GS.region (env' := fun fr1 => [(0, .pointer (some ⟨(fr1 0).x, 0, none⟩))]) (mem' := fun fr1 => [(1, .cells ((fr1 0).x) 68 (aU32 (List.replicate 64 0)))]) (RunsTo.mk [(0, { act := .new .var, key := some 1 })] [0] [1] (fun fr1 => []) (fun fr1 => by kernel_rfl) (fun fr1 => trivial)) ?_
  intro fr1
  refine GS.seq ?_
  refine GS.region (env' := fun _ => [(0, .pointer (some ⟨(fr1 0).x, 0, none⟩))]) (mem' := fun _ => [(1, .cells ((fr1 0).x) 68 (splice (aU32 (List.replicate 64 0)) 0 ((.agg (aU32 [1116352408, 1899447441, 3049323471, 3921009573, 961987163, 1508970993, 2453635748, 2870763221, 3624381080, 310598401, 607225278, 1426881987, 1925078388, 2162078206, 2614888103, 3248222580, 3835390401, 4022224774, 264347078, 604807628, 770255983, 1249150122, 1555081692, 1996064986, 2554220882, 2821834349, 2952996808, 3210313671, 3336571891, 3584528711, 113926993, 338241895, 666307205, 773529912, 1294757372, 1396182291, 1695183700, 1986661051, 2177026350, 2456956037, 2730485921, 2820302411, 3259730800, 3345764771, 3516065817, 3600352804, 4094571909, 275423344, 430227734, 506948616, 659060556, 883997877, 958139571, 1322822218, 1537002063, 1747873779, 1955562222, 2024104815, 2227730452, 2361852424, 2428436474, 2756734187, 3204031479, 3329325298]).toArray) : Value).cells.toList))]) (RunsTo.mk [(1, { act := .storeC, key := some 1 })] [0] [1] (fun _ => [(fr1 0).x = (fr1 0).x, ((.agg (aU32 [1116352408, 1899447441, 3049323471, 3921009573, 961987163, 1508970993, 2453635748, 2870763221, 3624381080, 310598401, 607225278, 1426881987, 1925078388, 2162078206, 2614888103, 3248222580, 3835390401, 4022224774, 264347078, 604807628, 770255983, 1249150122, 1555081692, 1996064986, 2554220882, 2821834349, 2952996808, 3210313671, 3336571891, 3584528711, 113926993, 338241895, 666307205, 773529912, 1294757372, 1396182291, 1695183700, 1986661051, 2177026350, 2456956037, 2730485921, 2820302411, 3259730800, 3345764771, 3516065817, 3600352804, 4094571909, 275423344, 430227734, 506948616, 659060556, 883997877, 958139571, 1322822218, 1537002063, 1747873779, 1955562222, 2024104815, 2227730452, 2361852424, 2428436474, 2756734187, 3204031479, 3329325298]).toArray) : Value).cells.toList.length = 64, 0 + 64 ≤ (aU32 (List.replicate 64 0)).length, ((.agg (aU32 [1116352408, 1899447441, 3049323471, 3921009573, 961987163, 1508970993, 2453635748, 2870763221, 3624381080, 310598401, 607225278, 1426881987, 1925078388, 2162078206, 2614888103, 3248222580, 3835390401, 4022224774, 264347078, 604807628, 770255983, 1249150122, 1555081692, 1996064986, 2554220882, 2821834349, 2952996808, 3210313671, 3336571891, 3584528711, 113926993, 338241895, 666307205, 773529912, 1294757372, 1396182291, 1695183700, 1986661051, 2177026350, 2456956037, 2730485921, 2820302411, 3259730800, 3345764771, 3516065817, 3600352804, 4094571909, 275423344, 430227734, 506948616, 659060556, 883997877, 958139571, 1322822218, 1537002063, 1747873779, 1955562222, 2024104815, 2227730452, 2361852424, 2428436474, 2756734187, 3204031479, 3329325298]).toArray) : Value).cells.toList.all Value.oneCell' = true]) (fun _ => by kernel_rfl) (fun _ => ⟨rfl, (aU32_len.trans rfl), (by rw [(aU32_len.trans (List.length_replicate ..))]; omega), aU32_one _, trivial⟩)) ?_
  intro _
  refine GS.conv (mem' := [(1, .cells ((fr1 0).x) 68 (aU32 [1116352408, 1899447441, 3049323471, 3921009573, 961987163, 1508970993, 2453635748, 2870763221, 3624381080, 310598401, 607225278, 1426881987, 1925078388, 2162078206, 2614888103, 3248222580, 3835390401, 4022224774, 264347078, 604807628, 770255983, 1249150122, 1555081692, 1996064986, 2554220882, 2821834349, 2952996808, 3210313671, 3336571891, 3584528711, 113926993, 338241895, 666307205, 773529912, 1294757372, 1396182291, 1695183700, 1986661051, 2177026350, 2456956037, 2730485921, 2820302411, 3259730800, 3345764771, 3516065817, 3600352804, 4094571909, 275423344, 430227734, 506948616, 659060556, 883997877, 958139571, 1322822218, 1537002063, 1747873779, 1955562222, 2024104815, 2227730452, 2361852424, 2428436474, 2756734187, 3204031479, 3329325298]))]) rfl (congrArg (fun rr : List Value => ([(1, .cells ((fr1 0).x) 68 rr)] : List (Nat × Ent))) (show (splice (aU32 (List.replicate 64 0)) 0 ((.agg (aU32 [1116352408, 1899447441, 3049323471, 3921009573, 961987163, 1508970993, 2453635748, 2870763221, 3624381080, 310598401, 607225278, 1426881987, 1925078388, 2162078206, 2614888103, 3248222580, 3835390401, 4022224774, 264347078, 604807628, 770255983, 1249150122, 1555081692, 1996064986, 2554220882, 2821834349, 2952996808, 3210313671, 3336571891, 3584528711, 113926993, 338241895, 666307205, 773529912, 1294757372, 1396182291, 1695183700, 1986661051, 2177026350, 2456956037, 2730485921, 2820302411, 3259730800, 3345764771, 3516065817, 3600352804, 4094571909, 275423344, 430227734, 506948616, 659060556, 883997877, 958139571, 1322822218, 1537002063, 1747873779, 1955562222, 2024104815, 2227730452, 2361852424, 2428436474, 2756734187, 3204031479, 3329325298]).toArray) : Value).cells.toList : List Value) = aU32 [1116352408, 1899447441, 3049323471, 3921009573, 961987163, 1508970993, 2453635748, 2870763221, 3624381080, 310598401, 607225278, 1426881987, 1925078388, 2162078206, 2614888103, 3248222580, 3835390401, 4022224774, 264347078, 604807628, 770255983, 1249150122, 1555081692, 1996064986, 2554220882, 2821834349, 2952996808, 3210313671, 3336571891, 3584528711, 113926993, 338241895, 666307205, 773529912, 1294757372, 1396182291, 1695183700, 1986661051, 2177026350, 2456956037, 2730485921, 2820302411, 3259730800, 3345764771, 3516065817, 3600352804, 4094571909, 275423344, 430227734, 506948616, 659060556, 883997877, 958139571, 1322822218, 1537002063, 1747873779, 1955562222, 2024104815, 2227730452, 2361852424, 2428436474, 2756734187, 3204031479, 3329325298] from splice_all ((aU32_len.trans rfl).trans (aU32_len.trans (List.length_replicate ..)).symm))) ?_
  have hy := Option.some.inj hm
  subst hy
  refine GS.retC (fn := Try.f45) 1 0 68 (.pointer (some ⟨(fr1 0).x, 0, none⟩)) (aU32 [1116352408, 1899447441, 3049323471, 3921009573, 961987163, 1508970993, 2453635748, 2870763221, 3624381080, 310598401, 607225278, 1426881987, 1925078388, 2162078206, 2614888103, 3248222580, 3835390401, 4022224774, 264347078, 604807628, 770255983, 1249150122, 1555081692, 1996064986, 2554220882, 2821834349, 2952996808, 3210313671, 3336571891, 3584528711, 113926993, 338241895, 666307205, 773529912, 1294757372, 1396182291, 1695183700, 1986661051, 2177026350, 2456956037, 2730485921, 2820302411, 3259730800, 3345764771, 3516065817, 3600352804, 4094571909, 275423344, 430227734, 506948616, 659060556, 883997877, 958139571, 1322822218, 1537002063, 1747873779, 1955562222, 2024104815, 2227730452, 2361852424, 2428436474, 2756734187, 3204031479, 3329325298]) (.agg (aU32 [1116352408, 1899447441, 3049323471, 3921009573, 961987163, 1508970993, 2453635748, 2870763221, 3624381080, 310598401, 607225278, 1426881987, 1925078388, 2162078206, 2614888103, 3248222580, 3835390401, 4022224774, 264347078, 604807628, 770255983, 1249150122, 1555081692, 1996064986, 2554220882, 2821834349, 2952996808, 3210313671, 3336571891, 3584528711, 113926993, 338241895, 666307205, 773529912, 1294757372, 1396182291, 1695183700, 1986661051, 2177026350, 2456956037, 2730485921, 2820302411, 3259730800, 3345764771, 3516065817, 3600352804, 4094571909, 275423344, 430227734, 506948616, 659060556, 883997877, 958139571, 1322822218, 1537002063, 1747873779, 1955562222, 2024104815, 2227730452, 2361852424, 2428436474, 2756734187, 3204031479, 3329325298]).toArray) [(fr1 0).x = (fr1 0).x, (aU32 [1116352408, 1899447441, 3049323471, 3921009573, 961987163, 1508970993, 2453635748, 2870763221, 3624381080, 310598401, 607225278, 1426881987, 1925078388, 2162078206, 2614888103, 3248222580, 3835390401, 4022224774, 264347078, 604807628, 770255983, 1249150122, 1555081692, 1996064986, 2554220882, 2821834349, 2952996808, 3210313671, 3336571891, 3584528711, 113926993, 338241895, 666307205, 773529912, 1294757372, 1396182291, 1695183700, 1986661051, 2177026350, 2456956037, 2730485921, 2820302411, 3259730800, 3345764771, 3516065817, 3600352804, 4094571909, 275423344, 430227734, 506948616, 659060556, 883997877, 958139571, 1322822218, 1537002063, 1747873779, 1955562222, 2024104815, 2227730452, 2361852424, 2428436474, 2756734187, 3204031479, 3329325298]).length = 64, ((aU32 [1116352408, 1899447441, 3049323471, 3921009573, 961987163, 1508970993, 2453635748, 2870763221, 3624381080, 310598401, 607225278, 1426881987, 1925078388, 2162078206, 2614888103, 3248222580, 3835390401, 4022224774, 264347078, 604807628, 770255983, 1249150122, 1555081692, 1996064986, 2554220882, 2821834349, 2952996808, 3210313671, 3336571891, 3584528711, 113926993, 338241895, 666307205, 773529912, 1294757372, 1396182291, 1695183700, 1986661051, 2177026350, 2456956037, 2730485921, 2820302411, 3259730800, 3345764771, 3516065817, 3600352804, 4094571909, 275423344, 430227734, 506948616, 659060556, 883997877, 958139571, 1322822218, 1537002063, 1747873779, 1955562222, 2024104815, 2227730452, 2361852424, 2428436474, 2756734187, 3204031479, 3329325298]).drop (0)).take 64 = aU32 [1116352408, 1899447441, 3049323471, 3921009573, 961987163, 1508970993, 2453635748, 2870763221, 3624381080, 310598401, 607225278, 1426881987, 1925078388, 2162078206, 2614888103, 3248222580, 3835390401, 4022224774, 264347078, 604807628, 770255983, 1249150122, 1555081692, 1996064986, 2554220882, 2821834349, 2952996808, 3210313671, 3336571891, 3584528711, 113926993, 338241895, 666307205, 773529912, 1294757372, 1396182291, 1695183700, 1986661051, 2177026350, 2456956037, 2730485921, 2820302411, 3259730800, 3345764771, 3516065817, 3600352804, 4094571909, 275423344, 430227734, 506948616, 659060556, 883997877, 958139571, 1322822218, 1537002063, 1747873779, 1955562222, 2024104815, 2227730452, 2361852424, 2428436474, 2756734187, 3204031479, 3329325298]] rfl Try.func45 (by kernel_rfl) rfl (by kernel_rfl) ⟨rfl, (aU32_len.trans rfl), drop0_take (aU32_len.trans rfl), trivial⟩ (fun w' hs => ?_)
  exact ⟨(), rfl, hs.turnedG (ks := []) rfl rfl⟩

theorem w_math_bits_RotateLeft32 (F : Nat) (a0 : Int) (a1 : Int) {y : Int} (hm : m_math_bits_RotateLeft32 F a0 a1 = some y) : CallG Try.prog 55 #[.int .u32 a0, .int .i64 a1] (X := Unit) (fun (_ : Unit) => .int .u32 y) [] [] (fun (_ : Unit) => []) := by
  intro w hg
  rw [m_math_bits_RotateLeft32] at hm
  refine GS.start (S := mayT [] []) (mem := []) Try.func55 rfl Try.ntmps55 (Nat.le_of_ble_eq_true rfl) (hg.start rfl) ?_
  refine GS.conv (env' := [(0, .int .u32 a0), (1, .int .i64 a1)]) rfl rfl ?_
  refine GS.seq ?_
  refine GS.region (env' := fun _ => [(0, .int .u32 a0), (1, .int .i64 a1)]) (mem' := fun _ => []) (RunsTo.mk [] [0, 1] [] (fun _ => []) (fun _ => by kernel_rfl) (fun _ => trivial)) ?_
  intro _
  refine GS.seq ?_
  refine GS.region (env' := fun _ => [(0, .int .u32 a0), (5, .int .u64 (iand .u64 (IntKind.u64.wrap a1) 31))]) (mem' := fun _ => []) (RunsTo.mk [] [0, 5] [] (fun _ => []) (fun _ => by kernel_rfl) (fun _ => trivial)) ?_
  intro _
  refine GS.seq ?_
  refine grd_elim hm (fun g4 hm => ?_)
  refine grd_elim hm (fun g5 hm => ?_)
  refine GS.region (env' := fun _ => [(4, .int .u32 (ior .u32 (IntKind.u32.wrap (a0 * 2 ^ (min (Int.toNat (iand .u64 (IntKind.u64.wrap a1) 31)) 32))) (Int.fdiv a0 (2 ^ (min (Int.toNat (IntKind.u64.wrap (32 - (iand .u64 (IntKind.u64.wrap a1) 31)))) 32)))))]) (mem' := fun _ => []) (RunsTo.mk [(2, { act := .shift }), (6, { act := .shift })] [4] [] (fun _ => [0 ≤ (iand .u64 (IntKind.u64.wrap a1) 31), 0 ≤ (IntKind.u64.wrap (32 - (iand .u64 (IntKind.u64.wrap a1) 31)))]) (fun _ => by kernel_rfl) (fun _ => ⟨g4, g5, trivial⟩)) ?_
  intro _
  have hy := Option.some.inj hm
  subst hy
  refine GS.ret (fn := Try.f55) [0] [.int .u32 (ior .u32 (IntKind.u32.wrap (a0 * 2 ^ (min (Int.toNat (iand .u64 (IntKind.u64.wrap a1) 31)) 32))) (Int.fdiv a0 (2 ^ (min (Int.toNat (IntKind.u64.wrap (32 - (iand .u64 (IntKind.u64.wrap a1) 31)))) 32))))] [] rfl Try.func55 (by kernel_rfl) trivial (fun w' hs => ?_)
  exact ⟨(), rfl, hs.turnedG (ks := []) rfl rfl⟩

end Go.Proofs.Ytmjlfdllpnkgoaa
