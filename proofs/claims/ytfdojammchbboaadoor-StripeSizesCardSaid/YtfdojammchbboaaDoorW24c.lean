/-
  CHAPTER 24: the functions do what their models say (3).
-/
import Derived.Test.YtfdojammchbboaaDoorW24b
set_option linter.unusedVariables false
set_option linter.unusedSimpArgs false
set_option maxRecDepth 100000
namespace Go.Proofs.YtfdojammchbboaaDoor
open Go Go.RowKit Sx

theorem w_stripe_Sizes (F : Nat) (a0 : S_stripe_Layout) (a1 : Int) {y : List Int} (hm : m_stripe_Sizes F a0 a1 = some y) : CallG Tryd.prog 26 #[.agg #[.int .i64 a0.Unit, .int .i64 a0.Count, .int .i64 a0.Size], .int .i64 a1] (X := Option Addr × Nat) (fun ⟨x0, x1⟩ => .slice x0 y.length x1) [] [] (fun ⟨x0, x1⟩ => [o3 x0 x1 y]) := by
  intro w hg
  rw [m_stripe_Sizes] at hm
  refine GS.start (S := mayT [] []) (mem := []) Tryd.func26 rfl Tryd.ntmps26 (Nat.le_of_ble_eq_true rfl) (hg.start rfl) ?_
  refine GS.conv (env' := [(0, .agg #[.int .i64 a0.Unit, .int .i64 a0.Count, .int .i64 a0.Size]), (1, .int .i64 a1)]) rfl rfl ?_
  refine GS.seq ?_
  refine GS.region (env' := fun fr1 => [(1, .int .i64 a1), (2, .pointer (some ⟨(fr1 0).x, 0, none⟩))]) (mem' := fun fr1 => [(1, .cells ((fr1 0).x) 23 [.int .i64 a0.Unit, .int .i64 a0.Count, .int .i64 a0.Size])]) (RunsTo.mk [(0, { act := .new .var, key := some 1 })] [1, 2] [1] (fun fr1 => []) (fun fr1 => by kernel_rfl) (fun fr1 => trivial)) ?_
  intro fr1
  refine GS.seq ?_
  refine GS.seq ?_
  refine jn_elim hm (fun J7 hJ9 hm => ?_)
  refine GS.cut (ι := Bool) (I := fun (v18_0 : Bool) => J7 v18_0 = some y) (E := fun (v18_0 : Bool) => [(1, .int .i64 a1), (2, .pointer (some ⟨(fr1 0).x, 0, none⟩)), (18, .bool v18_0)]) (M := fun (v18_0 : Bool) => [(1, .cells ((fr1 0).x) 23 [.int .i64 a0.Unit, .int .i64 a0.Count, .int .i64 a0.Size])]) ?_ ?_
  rotate_left
  · intro H8
    refine bnd_elim hm (fun y3 e4 hm => ?_)
    refine br_elim hm (fun h5 hm => ?_) (fun h5 hm => ?_)
    · skip
      refine GS.region (env' := fun _ => [(1, .int .i64 a1), (2, .pointer (some ⟨(fr1 0).x, 0, none⟩)), (18, .bool true)]) (mem' := fun _ => [(1, .cells ((fr1 0).x) 23 [.int .i64 a0.Unit, .int .i64 a0.Count, .int .i64 a0.Size])]) (RunsTo.mk [(0, { act := .load 1 0 0 [] }), (1, { act := .call [] (.bool y3) }), (3, { sp := some (.bool true) })] [1, 2, 18] [1] (fun _ => [(fr1 0).x = (fr1 0).x, CallOK Tryd.prog 12 #[.agg #[.int .i64 a0.Unit, .int .i64 a0.Count, .int .i64 a0.Size]] (.bool y3) [], ((.bool (!y3)) : Value) = .bool true]) (fun _ => by kernel_rfl) (fun _ => ⟨rfl, (w_stripe_Good F a0 e4).ok trivial, bool_eq h5, trivial⟩)) ?_
      intro _
      refine GS.rekey (env' := [(1, .int .i64 a1), (2, .pointer (some ⟨(fr1 0).x, 0, none⟩)), (18, .bool true)]) (mem' := [(1, .cells ((fr1 0).x) 23 [.int .i64 a0.Unit, .int .i64 a0.Count, .int .i64 a0.Size])]) [1, 2, 18] [(1, 1)] (by kernel_rfl) (by kernel_rfl) rfl ?_
      exact H8 true hm
    · skip
      refine br_elim hm (fun h6 hm => ?_) (fun h6 hm => ?_)
      · skip
        refine GS.region (env' := fun _ => [(1, .int .i64 a1), (2, .pointer (some ⟨(fr1 0).x, 0, none⟩)), (18, .bool true)]) (mem' := fun _ => [(1, .cells ((fr1 0).x) 23 [.int .i64 a0.Unit, .int .i64 a0.Count, .int .i64 a0.Size])]) (RunsTo.mk [(0, { act := .load 1 0 0 [] }), (1, { act := .call [] (.bool y3) }), (3, { sp := some (.bool false) }), (7, { sp := some (.bool true) })] [1, 2, 18] [1] (fun _ => [(fr1 0).x = (fr1 0).x, CallOK Tryd.prog 12 #[.agg #[.int .i64 a0.Unit, .int .i64 a0.Count, .int .i64 a0.Size]] (.bool y3) [], ((.bool (!y3)) : Value) = .bool false, ((.bool (decide (a1 < 0))) : Value) = .bool true]) (fun _ => by kernel_rfl) (fun _ => ⟨rfl, (w_stripe_Good F a0 e4).ok trivial, bool_eq h5, bool_eq h6, trivial⟩)) ?_
        intro _
        refine GS.rekey (env' := [(1, .int .i64 a1), (2, .pointer (some ⟨(fr1 0).x, 0, none⟩)), (18, .bool true)]) (mem' := [(1, .cells ((fr1 0).x) 23 [.int .i64 a0.Unit, .int .i64 a0.Count, .int .i64 a0.Size])]) [1, 2, 18] [(1, 1)] (by kernel_rfl) (by kernel_rfl) rfl ?_
        exact H8 true hm
      · skip
        refine GS.region (env' := fun _ => [(1, .int .i64 a1), (2, .pointer (some ⟨(fr1 0).x, 0, none⟩)), (18, .bool (decide (a1 > 65536)))]) (mem' := fun _ => [(1, .cells ((fr1 0).x) 23 [.int .i64 a0.Unit, .int .i64 a0.Count, .int .i64 a0.Size])]) (RunsTo.mk [(0, { act := .load 1 0 0 [] }), (1, { act := .call [] (.bool y3) }), (3, { sp := some (.bool false) }), (7, { sp := some (.bool false) })] [1, 2, 18] [1] (fun _ => [(fr1 0).x = (fr1 0).x, CallOK Tryd.prog 12 #[.agg #[.int .i64 a0.Unit, .int .i64 a0.Count, .int .i64 a0.Size]] (.bool y3) [], ((.bool (!y3)) : Value) = .bool false, ((.bool (decide (a1 < 0))) : Value) = .bool false]) (fun _ => by kernel_rfl) (fun _ => ⟨rfl, (w_stripe_Good F a0 e4).ok trivial, bool_eq h5, bool_eq h6, trivial⟩)) ?_
        intro _
        refine GS.rekey (env' := [(1, .int .i64 a1), (2, .pointer (some ⟨(fr1 0).x, 0, none⟩)), (18, .bool (decide (a1 > 65536)))]) (mem' := [(1, .cells ((fr1 0).x) 23 [.int .i64 a0.Unit, .int .i64 a0.Count, .int .i64 a0.Size])]) [1, 2, 18] [(1, 1)] (by kernel_rfl) (by kernel_rfl) rfl ?_
        exact H8 (decide (a1 > 65536)) hm
  · rintro v18_0 hm
    replace hm := (hJ9 _).symm.trans hm
    try dsimp only at hm
    refine GS.cond (t := v18_0) rfl rfl (fun h10 => ?_) (fun h10 => ?_)
    · replace hm := br_t h10 hm
      refine GS.seq ?_
      refine GS.region (env' := fun _ => [(4, .slice none 0 0)]) (mem' := fun _ => []) (RunsTo.mk [] [4] [] (fun _ => []) (fun _ => by kernel_rfl) (fun _ => trivial)) ?_
      intro _
      refine GS.setMem (mem' := [(2, o3 none 0 ([] : List Int))]) (fun w hw => Sat.addNil hw rfl) ?_
      have hy := Option.some.inj hm
      subst hy
      refine GS.ret (fn := Tryd.f26) [0] [.slice none 0 0] [] rfl Tryd.func26 (by kernel_rfl) trivial (fun w' hs => ?_)
      exact ⟨⟨none, 0⟩, rfl, hs.turnedG (ks := [2]) rfl rfl⟩
    · replace hm := br_f h10 hm
      refine GS.skip ?_
      refine GS.seq ?_
      refine GS.region (env' := fun _ => [(1, .int .i64 a1), (2, .pointer (some ⟨(fr1 0).x, 0, none⟩)), (5, .slice none 0 0)]) (mem' := fun _ => [(1, .cells ((fr1 0).x) 23 [.int .i64 a0.Unit, .int .i64 a0.Count, .int .i64 a0.Size])]) (RunsTo.mk [] [1, 2, 5] [1] (fun _ => []) (fun _ => by kernel_rfl) (fun _ => trivial)) ?_
      intro _
      refine GS.seq ?_
      refine GS.seq ?_
      refine bnd_elim hm (fun y14 e15 hm => ?_)
      refine GS.open_ ?_
      refine GR.run (i := 0) 2 (env' := fun _ => [(5, .slice none 0 0), (19, .agg #[.int .i64 a0.Unit, .int .i64 a0.Count, .int .i64 a0.Size]), (20, .int .i64 a1)]) (mem' := fun _ => []) (Nat.le_of_ble_eq_true (by kernel_rfl)) (RunsTo.mk [(0, { act := .load 1 0 0 [] })] [5, 19, 20] [] (fun _ => [(fr1 0).x = (fr1 0).x]) (fun _ => by kernel_rfl) (fun _ => ⟨rfl, trivial⟩)) ?_
      intro _
      refine GR.callG (X := Option Addr × Nat) (i := 2) (g := 21) (args := #[.agg #[.int .i64 a0.Unit, .int .i64 a0.Count, .int .i64 a0.Size], .int .i64 0, .int .i64 a1]) (v := fun ⟨x16, x17⟩ => .slice x16 y14.length x17) (own := []) (ro := []) (es' := fun ⟨x16, x17⟩ => [o44 x16 x17 y14]) (mem' := fun ⟨x16, x17⟩ => [(2, o44 x16 x17 y14)]) (env' := fun ⟨x16, x17⟩ => [(5, .slice none 0 0), (21, .slice x16 y14.length x17)]) [] [2] [5, 21] [2] false (by kernel_rfl) (by kernel_rfl) (by kernel_rfl) (by kernel_rfl) (by kernel_rfl) (fun _ => rfl) (fun _ _ => rfl) trivial (by rintro ⟨x16, x17⟩; kernel_rfl) (by rintro ⟨x16, x17⟩; kernel_rfl) (w_stripe_Extents F a0 0 a1 e15) ?_
      rintro ⟨x16, x17⟩
      refine GR.run (i := 3) 2 (env' := fun _ => [(5, .slice none 0 0), (21, .slice x16 y14.length x17), (22, .int .i64 ((y14.length : Nat) : Int)), (23, .int .i64 0)]) (mem' := fun _ => [(2, o44 x16 x17 y14)]) (Nat.le_of_ble_eq_true (by kernel_rfl)) (RunsTo.mk [] [5, 21, 22, 23] [2] (fun _ => []) (fun _ => by kernel_rfl) (fun _ => trivial)) ?_
      intro _
      refine GR.done (Nat.le_of_ble_eq_true (by kernel_rfl)) ?_
      refine GS.block ?_
      refine GS.loop ?_
      refine GS.know (p := y14.length ≤ x17) (fun w hw => by first | (have h := (hw.ok 2 _ rfl).1.1; rw [List.length_map] at h; exact h) | simpa using (hw.ok 2 _ rfl).1.1) (fun k19 => ?_)
      refine grd_elim hm (fun g79 hm => ?_)
      refine GS.setMem (mem' := [(2, o44 x16 x17 y14), (20001, o3 none 0 ([] : List Int))]) (fun w hw => Sat.addNil hw rfl) ?_
      refine GS.rekey (env' := [(5, .slice none 0 0), (21, .slice x16 y14.length x17), (22, .int .i64 ((y14.length : Nat) : Int)), (23, .int .i64 0)]) (mem' := [(2, o44 x16 x17 y14), (20000, o3 none 0 ([] : List Int))]) [5, 21, 22, 23] [(2, 2), (20000, 20001)] (by kernel_rfl) (by kernel_rfl) rfl ?_
      refine loopL_elim hm (fun st114 fn115 hst116 hfn117 hm => ?_)
      refine GS.loopInv (ι := List S_stripe_Extent × Nat × List Int × Option Addr × Nat) (I := fun ⟨rs112, v23_1, l20000_1, o20000_1, k20000_1⟩ => y14.drop v23_1 = rs112 ∧ loopL st114 fn115 rs112 v23_1 l20000_1 = some y) (μ := fun ⟨rs112, v23_1, l20000_1, o20000_1, k20000_1⟩ => rs112.length) (E := fun ⟨rs112, v23_1, l20000_1, o20000_1, k20000_1⟩ => [(5, .slice o20000_1 l20000_1.length k20000_1), (21, .slice x16 y14.length x17), (22, .int .i64 ((y14.length : Nat) : Int)), (23, .int .i64 ((v23_1 : Nat) : Int))]) (M := fun ⟨rs112, v23_1, l20000_1, o20000_1, k20000_1⟩ => [(2, o44 x16 x17 y14), (20000, o3 o20000_1 k20000_1 l20000_1)]) ?_ ⟨y14, 0, ([] : List Int), none, 0⟩ ⟨List.drop_zero .., hm⟩
      rintro ⟨rs112, v23_1, l20000_1, o20000_1, k20000_1⟩ ⟨hd78, hm⟩ ih113
      cases rs112 with
      | nil =>
        replace hm := (hfn117 _ _).symm.trans hm
        try dsimp only at hm
        refine GS.seq ?_
        refine GS.region (env' := fun _ => [(5, .slice o20000_1 l20000_1.length k20000_1), (21, .slice x16 y14.length x17), (22, .int .i64 ((y14.length : Nat) : Int)), (23, .int .i64 ((v23_1 : Nat) : Int)), (24, .bool (decide (((v23_1 : Nat) : Int) < ((y14.length : Nat) : Int))))]) (mem' := fun _ => [(2, o44 x16 x17 y14), (20000, o3 o20000_1 k20000_1 l20000_1)]) (RunsTo.mk [] [5, 21, 22, 23, 24] [2, 20000] (fun _ => []) (fun _ => by kernel_rfl) (fun _ => trivial)) ?_
        intro _
        refine GS.seq ?_
        refine GS.cond (t := decide (((v23_1 : Nat) : Int) < ((y14.length : Nat) : Int))) rfl rfl (fun h110 => absb h110 (drop_dec0 hd78)) (fun _ => ?_)
        refine GS.exit rfl ?_
        refine GS.seq ?_
        refine GS.region (env' := fun _ => [(4, .slice o20000_1 l20000_1.length k20000_1)]) (mem' := fun _ => [(20000, o3 o20000_1 k20000_1 l20000_1)]) (RunsTo.mk [] [4] [20000] (fun _ => []) (fun _ => by kernel_rfl) (fun _ => trivial)) ?_
        intro _
        have hy := Option.some.inj hm
        subst hy
        refine GS.ret (fn := Tryd.f26) [0] [.slice o20000_1 l20000_1.length k20000_1] [] rfl Tryd.func26 (by kernel_rfl) trivial (fun w' hs => ?_)
        exact ⟨⟨o20000_1, k20000_1⟩, rfl, hs.turnedG (ks := [20000]) rfl rfl⟩
      | cons x80 rs112 =>
        replace hm := (hst116 _ _ _ _).symm.trans hm
        try dsimp only at hm
        refine GS.seq ?_
        refine GS.region (env' := fun _ => [(5, .slice o20000_1 l20000_1.length k20000_1), (21, .slice x16 y14.length x17), (22, .int .i64 ((y14.length : Nat) : Int)), (23, .int .i64 ((v23_1 : Nat) : Int)), (24, .bool (decide (((v23_1 : Nat) : Int) < ((y14.length : Nat) : Int))))]) (mem' := fun _ => [(2, o44 x16 x17 y14), (20000, o3 o20000_1 k20000_1 l20000_1)]) (RunsTo.mk [] [5, 21, 22, 23, 24] [2, 20000] (fun _ => []) (fun _ => by kernel_rfl) (fun _ => trivial)) ?_
        intro _
        refine GS.seq ?_
        refine GS.cond (t := decide (((v23_1 : Nat) : Int) < ((y14.length : Nat) : Int))) rfl rfl (fun _ => ?_) (fun h82 => absb (drop_dec hd78) h82)
        refine GS.skip ?_
        refine GS.seq ?_
        refine GS.block ?_
        refine GS.seq ?_
        refine GS.region (env' := fun fr83 => [(5, .slice o20000_1 l20000_1.length k20000_1), (7, .pointer (some ⟨(fr83 2).x, 0, none⟩)), (21, .slice x16 y14.length x17), (22, .int .i64 ((y14.length : Nat) : Int)), (23, .int .i64 ((v23_1 : Nat) : Int))]) (mem' := fun fr83 => [(2, o44 x16 x17 y14), (20000, o3 o20000_1 k20000_1 l20000_1), (20001, .cells ((fr83 2).x) 44 [.int .i64 x80.Object, .int .i64 x80.At, .int .i64 x80.N])]) (RunsTo.mk [(0, { act := .idx 2 v23_1 }), (1, { act := .load 2 v23_1 0 [.int .i64 x80.Object, .int .i64 x80.At, .int .i64 x80.N] }), (2, { act := .new .var, key := some 20001 }), (3, { act := .store 0 0 [], key := some 20001 })] [5, 7, 21, 22, 23] [2, 20000, 20001] (fun fr83 => [x16 = x16, y14.length = (List.map S_stripe_Extent.row y14).length, (((v23_1 : Nat) : Int) : Int) = ((v23_1 : Nat) : Int), v23_1 < y14.length, blk x16 = blk x16, offs x16 + v23_1 * 3 = offs x16 + (v23_1 * 3 + 0), (List.map S_stripe_Extent.row y14)[v23_1]? = some [.int .i64 x80.Object, .int .i64 x80.At, .int .i64 x80.N], (fr83 2).x = (fr83 2).x, ((.agg #[.int .i64 x80.Object, .int .i64 x80.At, .int .i64 x80.N]) : Value).cells.toList.all Value.oneCell' = true]) (fun fr83 => by kernel_rfl) (fun fr83 => ⟨rfl, mlen S_stripe_Extent.row y14, rfl, (drop_lt hd78), rfl, rfl, map_drop S_stripe_Extent.row hd78, rfl, rfl, trivial⟩)) ?_
        intro fr83
        refine GS.seq ?_
        refine GS.block ?_
        refine GS.loop ?_
        refine GS.know (p := l20000_1.length ≤ k20000_1) (fun w hw => by first | (have h := (hw.ok 20000 _ rfl).1.1; rw [List.length_map] at h; exact h) | simpa using (hw.ok 20000 _ rfl).1.1) (fun k84 => ?_)
        refine GS.rekey (env' := [(5, .slice o20000_1 l20000_1.length k20000_1), (7, .pointer (some ⟨(fr83 2).x, 0, none⟩)), (21, .slice x16 y14.length x17), (22, .int .i64 ((y14.length : Nat) : Int)), (23, .int .i64 ((v23_1 : Nat) : Int))]) (mem' := [(2, o44 x16 x17 y14), (20000, o3 o20000_1 k20000_1 l20000_1), (20001, .cells ((fr83 2).x) 44 [.int .i64 x80.Object, .int .i64 x80.At, .int .i64 x80.N])]) [5, 7, 21, 22, 23] [(2, 2), (20000, 20000), (20001, 20001)] (by kernel_rfl) (by kernel_rfl) rfl ?_
        refine loopW_elim hm (fun st101 hst103 hm => ?_)
        refine GS.loopInv (ι := Nat × List Int × Option Addr × Nat) (I := fun ⟨rs99, l20000_4, o20000_4, k20000_4⟩ => loopW st101 rs99 l20000_4 = some y) (μ := fun ⟨rs99, l20000_4, o20000_4, k20000_4⟩ => rs99) (E := fun ⟨rs99, l20000_4, o20000_4, k20000_4⟩ => [(5, .slice o20000_4 l20000_4.length k20000_4), (7, .pointer (some ⟨(fr83 2).x, 0, none⟩)), (21, .slice x16 y14.length x17), (22, .int .i64 ((y14.length : Nat) : Int)), (23, .int .i64 ((v23_1 : Nat) : Int))]) (M := fun ⟨rs99, l20000_4, o20000_4, k20000_4⟩ => [(2, o44 x16 x17 y14), (20000, o3 o20000_4 k20000_4 l20000_4), (20001, .cells ((fr83 2).x) 44 [.int .i64 x80.Object, .int .i64 x80.At, .int .i64 x80.N])]) ?_ ⟨F, l20000_1, o20000_1, k20000_1⟩ hm
        rintro ⟨rs99, l20000_4, o20000_4, k20000_4⟩ hm ih100
        cases rs99 with
        | zero => cases hm
        | succ rs99 =>
          replace hm := (hst103 _ _).symm.trans hm
          try dsimp only at hm
          refine GS.seq ?_
          refine GS.seq ?_
          refine GS.region (env' := fun _ => [(5, .slice o20000_4 l20000_4.length k20000_4), (7, .pointer (some ⟨(fr83 2).x, 0, none⟩)), (21, .slice x16 y14.length x17), (22, .int .i64 ((y14.length : Nat) : Int)), (23, .int .i64 ((v23_1 : Nat) : Int)), (31, .bool (decide (((l20000_4.length : Nat) : Int) ≤ x80.Object)))]) (mem' := fun _ => [(2, o44 x16 x17 y14), (20000, o3 o20000_4 k20000_4 l20000_4), (20001, .cells ((fr83 2).x) 44 [.int .i64 x80.Object, .int .i64 x80.At, .int .i64 x80.N])]) (RunsTo.mk [(3, { act := .load 20001 0 0 [] })] [5, 7, 21, 22, 23, 31] [2, 20000, 20001] (fun _ => [(fr83 2).x = (fr83 2).x]) (fun _ => by kernel_rfl) (fun _ => ⟨rfl, trivial⟩)) ?_
          intro _
          refine GS.cond (t := decide (((l20000_4.length : Nat) : Int) ≤ x80.Object)) rfl rfl (fun h95 => ?_) (fun h95 => ?_)
          · replace hm := br_t h95 hm
            refine GS.skip ?_
            refine GS.block ?_
            refine grd_elim hm (fun g97 hm => ?_)
            refine GS.region (env' := fun fr96 => [(5, .slice ((fr96 2).ob) ((l20000_4 ++ [0]).length) ((fr96 2).cap)), (7, .pointer (some ⟨(fr83 2).x, 0, none⟩)), (21, .slice x16 y14.length x17), (22, .int .i64 ((y14.length : Nat) : Int)), (23, .int .i64 ((v23_1 : Nat) : Int))]) (mem' := fun fr96 => [(2, o44 x16 x17 y14), (20000, .osl ((fr96 2).ob) ((fr96 2).cap) 3 1 ((List.map rI l20000_4) ++ ([[.int .i64 0]] : List (List Value)))), (20001, .cells ((fr83 2).x) 44 [.int .i64 x80.Object, .int .i64 x80.At, .int .i64 x80.N])]) (RunsTo.mk [(1, { act := .new (.row 1 1), key := some 20002, spf := some (fun f => .slice (some (Addr.mk f.x 0 none)) ([0].length) 1) }), (2, { act := .app (some 20002), key := some 20000, spf := some (fun f => .slice (f.ob) ((l20000_4 ++ [0]).length) (f.cap)) })] [5, 7, 21, 22, 23] [2, 20000, 20001] (fun fr96 => [((.slice (some (Addr.mk (fr96 1).x 0 none)) 1 1) : Value) = .slice (some (Addr.mk (fr96 1).x 0 none)) ([0].length) 1, (some (Addr.mk (fr96 1).x 0 none)) = (some (Addr.mk (fr96 1).x 0 none)), [0].length = ([[.int .i64 0]] : List (List Value)).length, o20000_4 = o20000_4, k20000_4 = k20000_4, l20000_4.length = (List.map rI l20000_4).length, ((List.map rI l20000_4).length + ([[.int .i64 0]] : List (List Value)).length) * (8 + 1) ≤ 70368744177664, ([[.int .i64 0]] : List (List Value)).flatten.all Value.oneCell' = true, ((.slice ((fr96 2).ob) (l20000_4.length + ([[.int .i64 0]] : List (List Value)).length) ((fr96 2).cap)) : Value) = .slice ((fr96 2).ob) ((l20000_4 ++ [0]).length) ((fr96 2).cap)]) (fun fr96 => by kernel_rfl) (fun fr96 => ⟨rfl, rfl, (by rw [show ([[.int .i64 0]] : List (List Value)) = List.map rI [0] from rfl]; exact mlen rI [0]), rfl, rfl, mlen rI l20000_4, appb g97 (mlen rI l20000_4).symm (by rw [show ([[.int .i64 0]] : List (List Value)) = List.map rI [0] from rfl]; exact (mlen rI [0]).symm), (by rw [show ([[.int .i64 0]] : List (List Value)) = List.map rI [0] from (show ([[.int .i64 0]] : List (List Value)) = List.map rI [0] from rfl)]; exact all_one rI _ (fun _ => rfl)), slen (by simp), trivial⟩)) ?_
            intro fr96
            refine GS.conv (mem' := [(2, o44 x16 x17 y14), (20000, o3 ((fr96 2).ob) ((fr96 2).cap) (l20000_4 ++ [0])), (20001, .cells ((fr83 2).x) 44 [.int .i64 x80.Object, .int .i64 x80.At, .int .i64 x80.N])]) rfl (congrArg (fun rr : List (List Value) => ([(2, o44 x16 x17 y14), (20000, .osl ((fr96 2).ob) ((fr96 2).cap) 3 1 rr), (20001, .cells ((fr83 2).x) 44 [.int .i64 x80.Object, .int .i64 x80.At, .int .i64 x80.N])] : List (Nat × Ent))) (show (List.map rI l20000_4) ++ ([[.int .i64 0]] : List (List Value)) = List.map rI (l20000_4 ++ [0]) from (by rw [show List.map rI l20000_4 = List.map rI l20000_4 from rfl, show ([[.int .i64 0]] : List (List Value)) = List.map rI [0] from (show ([[.int .i64 0]] : List (List Value)) = List.map rI [0] from rfl)]; exact mapp rI _ _))) ?_
            refine GS.inBlock ?_
            refine GS.inLoop ?_
            refine GS.rekey (env' := [(5, .slice ((fr96 2).ob) ((l20000_4 ++ [0]).length) ((fr96 2).cap)), (7, .pointer (some ⟨(fr83 2).x, 0, none⟩)), (21, .slice x16 y14.length x17), (22, .int .i64 ((y14.length : Nat) : Int)), (23, .int .i64 ((v23_1 : Nat) : Int))]) (mem' := [(2, o44 x16 x17 y14), (20000, o3 ((fr96 2).ob) ((fr96 2).cap) (l20000_4 ++ [0])), (20001, .cells ((fr83 2).x) 44 [.int .i64 x80.Object, .int .i64 x80.At, .int .i64 x80.N])]) [5, 7, 21, 22, 23] [(2, 2), (20000, 20000), (20001, 20001)] (by kernel_rfl) (by kernel_rfl) rfl ?_
            exact ih100 ⟨rs99, (l20000_4 ++ [0]), (fr96 2).ob, (fr96 2).cap⟩ hm (Nat.lt_succ_self _)
          · replace hm := br_f h95 hm
            refine GS.exit rfl ?_
            refine grd_elim hm (fun g106 hm => ?_)
            refine grd_elim hm (fun g107 hm => ?_)
            refine GS.region (env' := fun _ => [(5, .slice o20000_4 l20000_4.length k20000_4), (21, .slice x16 y14.length x17), (22, .int .i64 ((y14.length : Nat) : Int)), (23, .int .i64 ((v23_1 : Nat) : Int))]) (mem' := fun _ => [(2, o44 x16 x17 y14), (20000, .osl o20000_4 k20000_4 3 1 ((List.map rI l20000_4).set (Int.toNat x80.Object) [.int .i64 ((l20000_4.getD (Int.toNat x80.Object) 0) + x80.N)]))]) (RunsTo.mkd [(2, { act := .load 20001 0 0 [] }), (3, { act := .idx 20000 (Int.toNat x80.Object) }), (4, { act := .load 20000 (Int.toNat x80.Object) 0 [.int .i64 (l20000_4.getD (Int.toNat x80.Object) 0)] }), (6, { act := .load 20001 0 0 [] }), (7, { sp := some (.int .i64 ((l20000_4.getD (Int.toNat x80.Object) 0) + x80.N)) }), (8, { act := .idx 20000 (Int.toNat x80.Object) }), (9, { act := .store (Int.toNat x80.Object) 0 [.int .i64 (l20000_4.getD (Int.toNat x80.Object) 0)], key := some 20000 })] [5, 21, 22, 23] [2, 20000] (fun _ => [(fr83 2).x = (fr83 2).x, o20000_4 = o20000_4, l20000_4.length = (List.map rI l20000_4).length, (x80.Object : Int) = (((Int.toNat x80.Object) : Nat) : Int), (Int.toNat x80.Object) < l20000_4.length, blk o20000_4 = blk o20000_4, offs o20000_4 + (Int.toNat x80.Object) * 1 = offs o20000_4 + ((Int.toNat x80.Object) * 1 + 0), (List.map rI l20000_4)[(Int.toNat x80.Object)]? = some [.int .i64 (l20000_4.getD (Int.toNat x80.Object) 0)], (fr83 2).x = (fr83 2).x, ((.int .i64 (IntKind.i64.wrap ((l20000_4.getD (Int.toNat x80.Object) 0) + x80.N))) : Value) = .int .i64 ((l20000_4.getD (Int.toNat x80.Object) 0) + x80.N), o20000_4 = o20000_4, l20000_4.length = (List.map rI l20000_4).length, (x80.Object : Int) = (((Int.toNat x80.Object) : Nat) : Int), (Int.toNat x80.Object) < l20000_4.length, blk o20000_4 = blk o20000_4, offs o20000_4 + (Int.toNat x80.Object) * 1 = offs o20000_4 + ((Int.toNat x80.Object) * 1 + 0), (List.map rI l20000_4)[(Int.toNat x80.Object)]? = some [.int .i64 (l20000_4.getD (Int.toNat x80.Object) 0)], ((.int .i64 ((l20000_4.getD (Int.toNat x80.Object) 0) + x80.N)) : Value).cells.toList.all Value.oneCell' = true]) (by kernel_rfl) (by kernel_rfl) (fun _ => by kernel_rfl) (fun _ => ⟨rfl, rfl, mlen rI l20000_4, g106.eq, g106.2, rfl, rfl, map_at rI 0 g106.2, rfl, I64.w g107, rfl, mlen rI l20000_4, g106.eq, g106.2, rfl, rfl, map_at rI 0 g106.2, rfl, trivial⟩)) ?_
            intro _
            refine GS.conv (mem' := [(2, o44 x16 x17 y14), (20000, o3 o20000_4 k20000_4 (l20000_4.set (Int.toNat x80.Object) ((l20000_4.getD (Int.toNat x80.Object) 0) + x80.N)))]) rfl (congrArg (fun rr : List (List Value) => ([(2, o44 x16 x17 y14), (20000, .osl o20000_4 k20000_4 3 1 rr)] : List (Nat × Ent))) (show (List.map rI l20000_4).set (Int.toNat x80.Object) [.int .i64 ((l20000_4.getD (Int.toNat x80.Object) 0) + x80.N)] = List.map rI (l20000_4.set (Int.toNat x80.Object) ((l20000_4.getD (Int.toNat x80.Object) 0) + x80.N)) from mset rI l20000_4 (Int.toNat x80.Object) ((l20000_4.getD (Int.toNat x80.Object) 0) + x80.N))) ?_
            refine GS.inBlock ?_
            refine GS.conv (env' := [(5, .slice o20000_4 ((l20000_4.set (Int.toNat x80.Object) ((l20000_4.getD (Int.toNat x80.Object) 0) + x80.N)).length) k20000_4), (21, .slice x16 y14.length x17), (22, .int .i64 ((y14.length : Nat) : Int)), (23, .int .i64 ((v23_1 : Nat) : Int))]) (congrArg (fun vhole : Value => [(5, vhole), (21, .slice x16 y14.length x17), (22, .int .i64 ((y14.length : Nat) : Int)), (23, .int .i64 ((v23_1 : Nat) : Int))]) (show ((.slice o20000_4 l20000_4.length k20000_4) : Value) = .slice o20000_4 ((l20000_4.set (Int.toNat x80.Object) ((l20000_4.getD (Int.toNat x80.Object) 0) + x80.N)).length) k20000_4 from (by simp []))) rfl ?_
            refine GS.region (env' := fun _ => [(5, .slice o20000_4 ((l20000_4.set (Int.toNat x80.Object) ((l20000_4.getD (Int.toNat x80.Object) 0) + x80.N)).length) k20000_4), (21, .slice x16 y14.length x17), (22, .int .i64 ((y14.length : Nat) : Int)), (23, .int .i64 ((v23_1 + 1 : Nat) : Int))]) (mem' := fun _ => [(2, o44 x16 x17 y14), (20000, o3 o20000_4 k20000_4 (l20000_4.set (Int.toNat x80.Object) ((l20000_4.getD (Int.toNat x80.Object) 0) + x80.N)))]) (RunsTo.mk [(0, { sp := some (.int .i64 ((v23_1 + 1 : Nat) : Int)) })] [5, 21, 22, 23] [2, 20000] (fun _ => [((.int .i64 (IntKind.i64.wrap (((v23_1 : Nat) : Int) + 1))) : Value) = .int .i64 ((v23_1 + 1 : Nat) : Int)]) (fun _ => by kernel_rfl) (fun _ => ⟨natw (drop_lt hd78) g79, trivial⟩)) ?_
            intro _
            refine GS.inLoop ?_
            refine GS.rekey (env' := [(5, .slice o20000_4 ((l20000_4.set (Int.toNat x80.Object) ((l20000_4.getD (Int.toNat x80.Object) 0) + x80.N)).length) k20000_4), (21, .slice x16 y14.length x17), (22, .int .i64 ((y14.length : Nat) : Int)), (23, .int .i64 ((v23_1 + 1 : Nat) : Int))]) (mem' := [(2, o44 x16 x17 y14), (20000, o3 o20000_4 k20000_4 (l20000_4.set (Int.toNat x80.Object) ((l20000_4.getD (Int.toNat x80.Object) 0) + x80.N)))]) [5, 21, 22, 23] [(2, 2), (20000, 20000)] (by kernel_rfl) (by kernel_rfl) rfl ?_
            exact ih113 ⟨rs112, v23_1 + 1, (l20000_4.set (Int.toNat x80.Object) ((l20000_4.getD (Int.toNat x80.Object) 0) + x80.N)), o20000_4, k20000_4⟩ ⟨drop_next hd78, hm⟩ (Nat.lt_succ_self _)

theorem w_tholeref01_Ints (F : Nat) (a0_o : Option Addr) (a0_c : Nat) (a0 : List Int) (a1_o : Option Addr) (a1_c : Nat) (a1 : List Int) {y : Bool} (hm : m_tholeref01_Ints F a0 a1 = some y) : CallG Tryd.prog 25 #[.slice a0_o a0.length a0_c, .slice a1_o a1.length a1_c] (X := Unit) (fun (_ : Unit) => .bool y) [] [r3 a0_o a0, r3 a1_o a1] (fun (_ : Unit) => []) := by
  intro w hg
  rw [m_tholeref01_Ints] at hm
  refine GS.start (S := mayT [] [r3 a0_o a0, r3 a1_o a1]) (mem := [(1, r3 a0_o a0), (2, r3 a1_o a1)]) Tryd.func25 rfl Tryd.ntmps25 (Nat.le_of_ble_eq_true rfl) (hg.start rfl) ?_
  refine GS.conv (env' := [(0, .slice a0_o a0.length a0_c), (1, .slice a1_o a1.length a1_c)]) rfl rfl ?_
  refine GS.seq ?_
  refine GS.region (env' := fun _ => [(0, .slice a0_o a0.length a0_c), (1, .slice a1_o a1.length a1_c)]) (mem' := fun _ => [(1, r3 a0_o a0), (2, r3 a1_o a1)]) (RunsTo.mk [] [0, 1] [1, 2] (fun _ => []) (fun _ => by kernel_rfl) (fun _ => trivial)) ?_
  intro _
  refine GS.seq ?_
  refine GS.seq ?_
  refine GS.region (env' := fun _ => [(0, .slice a0_o a0.length a0_c), (1, .slice a1_o a1.length a1_c), (10, .bool (((a0.length : Nat) : Int) != ((a1.length : Nat) : Int)))]) (mem' := fun _ => [(1, r3 a0_o a0), (2, r3 a1_o a1)]) (RunsTo.mk [] [0, 1, 10] [1, 2] (fun _ => []) (fun _ => by kernel_rfl) (fun _ => trivial)) ?_
  intro _
  refine GS.cond (t := ((a0.length : Nat) : Int) != ((a1.length : Nat) : Int)) rfl rfl (fun h3 => ?_) (fun h3 => ?_)
  · replace hm := br_t h3 hm
    refine GS.seq ?_
    refine GS.region (env' := fun _ => [(4, .bool false)]) (mem' := fun _ => []) (RunsTo.mk [] [4] [] (fun _ => []) (fun _ => by kernel_rfl) (fun _ => trivial)) ?_
    intro _
    have hy := Option.some.inj hm
    subst hy
    refine GS.ret (fn := Tryd.f25) [0] [.bool false] [] rfl Tryd.func25 (by kernel_rfl) trivial (fun w' hs => ?_)
    exact ⟨(), rfl, hs.turnedG (ks := []) rfl rfl⟩
  · replace hm := br_f h3 hm
    refine GS.skip ?_
    refine GS.seq ?_
    refine GS.seq ?_
    refine GS.region (env' := fun _ => [(0, .slice a0_o a0.length a0_c), (1, .slice a1_o a1.length a1_c), (12, .int .i64 ((a0.length : Nat) : Int)), (13, .int .i64 0)]) (mem' := fun _ => [(1, r3 a0_o a0), (2, r3 a1_o a1)]) (RunsTo.mk [] [0, 1, 12, 13] [1, 2] (fun _ => []) (fun _ => by kernel_rfl) (fun _ => trivial)) ?_
    intro _
    refine GS.block ?_
    refine GS.loop ?_
    refine grd_elim hm (fun g26 hm => ?_)
    refine GS.rekey (env' := [(0, .slice a0_o a0.length a0_c), (1, .slice a1_o a1.length a1_c), (12, .int .i64 ((a0.length : Nat) : Int)), (13, .int .i64 0)]) (mem' := [(1, r3 a0_o a0), (2, r3 a1_o a1)]) [0, 1, 12, 13] [(1, 1), (2, 2)] (by kernel_rfl) (by kernel_rfl) rfl ?_
    refine loopL_elim hm (fun st41 fn42 hst43 hfn44 hm => ?_)
    refine GS.loopInv (ι := List Int × Nat) (I := fun ⟨rs39, v13_1⟩ => a0.drop v13_1 = rs39 ∧ loopL st41 fn42 rs39 v13_1 () = some y) (μ := fun ⟨rs39, v13_1⟩ => rs39.length) (E := fun ⟨rs39, v13_1⟩ => [(0, .slice a0_o a0.length a0_c), (1, .slice a1_o a1.length a1_c), (12, .int .i64 ((a0.length : Nat) : Int)), (13, .int .i64 ((v13_1 : Nat) : Int))]) (M := fun ⟨rs39, v13_1⟩ => [(1, r3 a0_o a0), (2, r3 a1_o a1)]) ?_ ⟨a0, 0⟩ ⟨List.drop_zero .., hm⟩
    rintro ⟨rs39, v13_1⟩ ⟨hd25, hm⟩ ih40
    cases rs39 with
    | nil =>
      replace hm := (hfn44 _ _).symm.trans hm
      try dsimp only at hm
      refine GS.seq ?_
      refine GS.region (env' := fun _ => [(0, .slice a0_o a0.length a0_c), (1, .slice a1_o a1.length a1_c), (12, .int .i64 ((a0.length : Nat) : Int)), (13, .int .i64 ((v13_1 : Nat) : Int)), (14, .bool (decide (((v13_1 : Nat) : Int) < ((a0.length : Nat) : Int))))]) (mem' := fun _ => [(1, r3 a0_o a0), (2, r3 a1_o a1)]) (RunsTo.mk [] [0, 1, 12, 13, 14] [1, 2] (fun _ => []) (fun _ => by kernel_rfl) (fun _ => trivial)) ?_
      intro _
      refine GS.seq ?_
      refine GS.cond (t := decide (((v13_1 : Nat) : Int) < ((a0.length : Nat) : Int))) rfl rfl (fun h37 => absb h37 (drop_dec0 hd25)) (fun _ => ?_)
      refine GS.exit rfl ?_
      refine GS.seq ?_
      refine GS.region (env' := fun _ => [(4, .bool true)]) (mem' := fun _ => []) (RunsTo.mk [] [4] [] (fun _ => []) (fun _ => by kernel_rfl) (fun _ => trivial)) ?_
      intro _
      have hy := Option.some.inj hm
      subst hy
      refine GS.ret (fn := Tryd.f25) [0] [.bool true] [] rfl Tryd.func25 (by kernel_rfl) trivial (fun w' hs => ?_)
      exact ⟨(), rfl, hs.turnedG (ks := []) rfl rfl⟩
    | cons x27 rs39 =>
      replace hm := (hst43 _ _ _ _).symm.trans hm
      try dsimp only at hm
      refine GS.seq ?_
      refine GS.region (env' := fun _ => [(0, .slice a0_o a0.length a0_c), (1, .slice a1_o a1.length a1_c), (12, .int .i64 ((a0.length : Nat) : Int)), (13, .int .i64 ((v13_1 : Nat) : Int)), (14, .bool (decide (((v13_1 : Nat) : Int) < ((a0.length : Nat) : Int))))]) (mem' := fun _ => [(1, r3 a0_o a0), (2, r3 a1_o a1)]) (RunsTo.mk [] [0, 1, 12, 13, 14] [1, 2] (fun _ => []) (fun _ => by kernel_rfl) (fun _ => trivial)) ?_
      intro _
      refine GS.seq ?_
      refine GS.cond (t := decide (((v13_1 : Nat) : Int) < ((a0.length : Nat) : Int))) rfl rfl (fun _ => ?_) (fun h29 => absb (drop_dec hd25) h29)
      refine GS.skip ?_
      refine GS.seq ?_
      refine GS.block ?_
      refine GS.seq ?_
      refine GS.region (env' := fun _ => [(0, .slice a0_o a0.length a0_c), (1, .slice a1_o a1.length a1_c), (5, .int .i64 ((v13_1 : Nat) : Int)), (12, .int .i64 ((a0.length : Nat) : Int)), (13, .int .i64 ((v13_1 : Nat) : Int))]) (mem' := fun _ => [(1, r3 a0_o a0), (2, r3 a1_o a1)]) (RunsTo.mk [] [0, 1, 5, 12, 13] [1, 2] (fun _ => []) (fun _ => by kernel_rfl) (fun _ => trivial)) ?_
      intro _
      refine GS.seq ?_
      refine grd_elim hm (fun g32 hm => ?_)
      refine GS.region (env' := fun _ => [(0, .slice a0_o a0.length a0_c), (1, .slice a1_o a1.length a1_c), (12, .int .i64 ((a0.length : Nat) : Int)), (13, .int .i64 ((v13_1 : Nat) : Int)), (24, .bool (x27 != (a1.getD v13_1 0)))]) (mem' := fun _ => [(1, r3 a0_o a0), (2, r3 a1_o a1)]) (RunsTo.mkd [(2, { act := .idx 1 v13_1 }), (3, { act := .load 1 v13_1 0 [.int .i64 x27] }), (6, { act := .idx 2 v13_1 }), (7, { act := .load 2 v13_1 0 [.int .i64 (a1.getD v13_1 0)] })] [0, 1, 12, 13, 24] [1, 2] (fun _ => [a0_o = a0_o, a0.length = (List.map rI a0).length, (((v13_1 : Nat) : Int) : Int) = ((v13_1 : Nat) : Int), v13_1 < a0.length, blk a0_o = blk a0_o, offs a0_o + v13_1 * 1 = offs a0_o + (v13_1 * 1 + 0), (List.map rI a0)[v13_1]? = some [.int .i64 x27], a1_o = a1_o, a1.length = (List.map rI a1).length, (((v13_1 : Nat) : Int) : Int) = ((v13_1 : Nat) : Int), v13_1 < a1.length, blk a1_o = blk a1_o, offs a1_o + v13_1 * 1 = offs a1_o + (v13_1 * 1 + 0), (List.map rI a1)[v13_1]? = some [.int .i64 (a1.getD v13_1 0)]]) (by kernel_rfl) (by kernel_rfl) (fun _ => by kernel_rfl) (fun _ => ⟨rfl, mlen rI a0, rfl, (drop_lt hd25), rfl, rfl, map_drop rI hd25, rfl, mlen rI a1, rfl, g32, rfl, rfl, map_at rI 0 g32, trivial⟩)) ?_
      intro _
      refine GS.cond (t := x27 != (a1.getD v13_1 0)) rfl rfl (fun h33 => ?_) (fun h33 => ?_)
      · replace hm := br_t h33 hm
        refine GS.seq ?_
        refine GS.region (env' := fun _ => [(4, .bool false)]) (mem' := fun _ => []) (RunsTo.mk [] [4] [] (fun _ => []) (fun _ => by kernel_rfl) (fun _ => trivial)) ?_
        intro _
        have hy := Option.some.inj hm
        subst hy
        refine GS.ret (fn := Tryd.f25) [0] [.bool false] [] rfl Tryd.func25 (by kernel_rfl) trivial (fun w' hs => ?_)
        exact ⟨(), rfl, hs.turnedG (ks := []) rfl rfl⟩
      · replace hm := br_f h33 hm
        refine GS.skip ?_
        refine GS.inBlock ?_
        refine GS.region (env' := fun _ => [(0, .slice a0_o a0.length a0_c), (1, .slice a1_o a1.length a1_c), (12, .int .i64 ((a0.length : Nat) : Int)), (13, .int .i64 ((v13_1 + 1 : Nat) : Int))]) (mem' := fun _ => [(1, r3 a0_o a0), (2, r3 a1_o a1)]) (RunsTo.mk [(0, { sp := some (.int .i64 ((v13_1 + 1 : Nat) : Int)) })] [0, 1, 12, 13] [1, 2] (fun _ => [((.int .i64 (IntKind.i64.wrap (((v13_1 : Nat) : Int) + 1))) : Value) = .int .i64 ((v13_1 + 1 : Nat) : Int)]) (fun _ => by kernel_rfl) (fun _ => ⟨natw (drop_lt hd25) g26, trivial⟩)) ?_
        intro _
        refine GS.inLoop ?_
        refine GS.rekey (env' := [(0, .slice a0_o a0.length a0_c), (1, .slice a1_o a1.length a1_c), (12, .int .i64 ((a0.length : Nat) : Int)), (13, .int .i64 ((v13_1 + 1 : Nat) : Int))]) (mem' := [(1, r3 a0_o a0), (2, r3 a1_o a1)]) [0, 1, 12, 13] [(1, 1), (2, 2)] (by kernel_rfl) (by kernel_rfl) rfl ?_
        exact ih40 ⟨rs39, v13_1 + 1⟩ ⟨drop_next hd25, hm⟩ (Nat.lt_succ_self _)

theorem w_stripe_Name (F : Nat) (a0 : ByteArray) (a1 : Int) {y : ByteArray} (hm : m_stripe_Name F a0 a1 = some y) : CallG Tryd.prog 19 #[.string a0, .int .i64 a1] (X := Unit) (fun (_ : Unit) => .string y) [] [] (fun (_ : Unit) => []) := by
  intro w hg
  rw [m_stripe_Name] at hm
  refine GS.start (S := mayT [] []) (mem := []) Tryd.func19 rfl Tryd.ntmps19 (Nat.le_of_ble_eq_true rfl) (hg.start rfl) ?_
  refine GS.conv (env' := [(0, .string a0), (1, .int .i64 a1)]) rfl rfl ?_
  refine GS.seq ?_
  refine GS.region (env' := fun _ => [(0, .string a0), (1, .int .i64 a1)]) (mem' := fun _ => []) (RunsTo.mk [] [0, 1] [] (fun _ => []) (fun _ => by kernel_rfl) (fun _ => trivial)) ?_
  intro _
  refine GS.seq ?_
  refine GS.seq ?_
  refine GS.region (env' := fun _ => [(0, .string a0), (1, .int .i64 a1), (6, .bool (decide (a1 < 0)))]) (mem' := fun _ => []) (RunsTo.mk [] [0, 1, 6] [] (fun _ => []) (fun _ => by kernel_rfl) (fun _ => trivial)) ?_
  intro _
  refine GS.cond (t := decide (a1 < 0)) rfl rfl (fun h3 => ?_) (fun h3 => ?_)
  · replace hm := br_t h3 hm
    refine GS.seq ?_
    refine GS.region (env' := fun _ => [(4, .string (ByteArray.mk #[]))]) (mem' := fun _ => []) (RunsTo.mk [] [4] [] (fun _ => []) (fun _ => by kernel_rfl) (fun _ => trivial)) ?_
    intro _
    have hy := Option.some.inj hm
    subst hy
    refine GS.ret (fn := Tryd.f19) [0] [.string (ByteArray.mk #[])] [] rfl Tryd.func19 (by kernel_rfl) trivial (fun w' hs => ?_)
    exact ⟨(), rfl, hs.turnedG (ks := []) rfl rfl⟩
  · replace hm := br_f h3 hm
    refine GS.skip ?_
    refine GS.seq ?_
    refine grd_elim hm (fun g6 hm => ?_)
    refine bnd_elim hm (fun y7 e8 hm => ?_)
    refine grd_elim hm (fun g9 hm => ?_)
    refine GS.region (env' := fun _ => [(4, .string ((a0 ++ (ByteArray.mk #[46])) ++ y7))]) (mem' := fun _ => []) (RunsTo.mk [(1, { act := .cat }), (3, { act := .call [] (.string y7) }), (4, { act := .cat })] [4] [] (fun _ => [a0.size + (ByteArray.mk #[46]).size ≤ 9223372036854775807, CallOK Tryd.prog 39 #[.int .i64 a1] (.string y7) [], (a0 ++ (ByteArray.mk #[46])).size + y7.size ≤ 9223372036854775807]) (fun _ => by kernel_rfl) (fun _ => ⟨g6, (w_strconv_Itoa F a1 e8).ok trivial, g9, trivial⟩)) ?_
    intro _
    have hy := Option.some.inj hm
    subst hy
    refine GS.ret (fn := Tryd.f19) [0] [.string ((a0 ++ (ByteArray.mk #[46])) ++ y7)] [] rfl Tryd.func19 (by kernel_rfl) trivial (fun w' hs => ?_)
    exact ⟨(), rfl, hs.turnedG (ks := []) rfl rfl⟩

theorem w_tholelaw24_lives (F : Nat) {y : Bool} (hm : m_tholelaw24_lives F = some y) : CallG Tryd.prog 16 #[] (X := Unit) (fun (_ : Unit) => .bool y) [] [] (fun (_ : Unit) => []) := by
  intro w hg
  rw [m_tholelaw24_lives] at hm
  refine GS.start (S := mayT [] []) (mem := []) Tryd.func16 rfl Tryd.ntmps16 (Nat.le_of_ble_eq_true rfl) (hg.start rfl) ?_
  refine GS.conv (env' := []) rfl rfl ?_
  refine GS.seq ?_
  refine GS.region (env' := fun _ => []) (mem' := fun _ => []) (RunsTo.mk [] [] [] (fun _ => []) (fun _ => by kernel_rfl) (fun _ => trivial)) ?_
  intro _
  refine GS.seq ?_
  refine GS.region (env' := fun fr2 => [(1, .pointer (some ⟨(fr2 1).x, 0, none⟩))]) (mem' := fun fr2 => [(1, .cells ((fr2 1).x) 23 [.int .i64 2, .int .i64 2, .int .i64 4])]) (RunsTo.mk [(1, { act := .new .var, key := some 1 }), (2, { act := .store 0 0 [], key := some 1 })] [1] [1] (fun fr2 => [(fr2 1).x = (fr2 1).x, ((.agg #[.int .i64 2, .int .i64 2, .int .i64 4]) : Value).cells.toList.all Value.oneCell' = true]) (fun fr2 => by kernel_rfl) (fun fr2 => ⟨rfl, rfl, trivial⟩)) ?_
  intro fr2
  refine GS.seq ?_
  refine bnd_elim hm (fun y4 e5 hm => ?_)
  refine GS.region (env' := fun _ => [(1, .pointer (some ⟨(fr2 1).x, 0, none⟩)), (2, .int .i64 y4.1), (3, .int .i64 y4.2)]) (mem' := fun _ => [(1, .cells ((fr2 1).x) 23 [.int .i64 2, .int .i64 2, .int .i64 4])]) (RunsTo.mk [(0, { act := .load 1 0 0 [] }), (1, { act := .call [] (.tuple #[.int .i64 y4.1, .int .i64 y4.2]) })] [1, 2, 3] [1] (fun _ => [(fr2 1).x = (fr2 1).x, CallOK Tryd.prog 10 #[.agg #[.int .i64 2, .int .i64 2, .int .i64 4], .int .i64 8] (.tuple #[.int .i64 y4.1, .int .i64 y4.2]) []]) (fun _ => by kernel_rfl) (fun _ => ⟨rfl, (w_stripe_Place F (S_stripe_Layout.mk 2 2 4) 8 e5).ok trivial, trivial⟩)) ?_
  intro _
  refine GS.seq ?_
  refine bnd_elim hm (fun y7 e8 hm => ?_)
  refine GS.region (env' := fun _ => [(1, .pointer (some ⟨(fr2 1).x, 0, none⟩)), (2, .int .i64 y4.1), (3, .int .i64 y4.2), (6, .bool y7.2.2)]) (mem' := fun _ => [(1, .cells ((fr2 1).x) 23 [.int .i64 2, .int .i64 2, .int .i64 4])]) (RunsTo.mk [(0, { act := .call [] (.tuple #[.string y7.1, .int .i64 y7.2.1, .bool y7.2.2]) })] [1, 2, 3, 6] [1] (fun _ => [CallOK Tryd.prog 17 #[.string (ByteArray.mk #[97, 46, 48, 49])] (.tuple #[.string y7.1, .int .i64 y7.2.1, .bool y7.2.2]) []]) (fun _ => by kernel_rfl) (fun _ => ⟨(w_stripe_Parse F (ByteArray.mk #[97, 46, 48, 49]) e8).ok trivial, trivial⟩)) ?_
  intro _
  refine GS.seq ?_
  refine br_elim hm (fun h10 hm => ?_) (fun h10 hm => ?_)
  · skip
    refine br_elim hm (fun h11 hm => ?_) (fun h11 hm => ?_)
    · skip
      refine bnd_elim hm (fun y12 e13 hm => ?_)
      refine GS.open_ ?_
      refine GR.run (i := 0) 8 (env' := fun _ => [(1, .pointer (some ⟨(fr2 1).x, 0, none⟩)), (6, .bool y7.2.2), (24, .bool true), (25, .agg #[.int .i64 2, .int .i64 2, .int .i64 4])]) (mem' := fun _ => [(1, .cells ((fr2 1).x) 23 [.int .i64 2, .int .i64 2, .int .i64 4])]) (Nat.le_of_ble_eq_true (by kernel_rfl)) (RunsTo.mk [(2, { sp := some (.bool true) }), (6, { sp := some (.bool true) }), (7, { act := .load 1 0 0 [] })] [1, 6, 24, 25] [1] (fun _ => [((.bool (y4.1 == 2)) : Value) = .bool true, ((.bool (y4.2 == 0)) : Value) = .bool true, (fr2 1).x = (fr2 1).x]) (fun _ => by kernel_rfl) (fun _ => ⟨bool_eq h10, bool_eq h11, rfl, trivial⟩)) ?_
      intro _
      refine GR.callG (X := Option Addr × Nat) (i := 8) (g := 26) (args := #[.agg #[.int .i64 2, .int .i64 2, .int .i64 4], .int .i64 9]) (v := fun ⟨x14, x15⟩ => .slice x14 y12.length x15) (own := []) (ro := []) (es' := fun ⟨x14, x15⟩ => [o3 x14 x15 y12]) (mem' := fun ⟨x14, x15⟩ => [(1, .cells ((fr2 1).x) 23 [.int .i64 2, .int .i64 2, .int .i64 4]), (2, o3 x14 x15 y12)]) (env' := fun ⟨x14, x15⟩ => [(1, .pointer (some ⟨(fr2 1).x, 0, none⟩)), (6, .bool y7.2.2), (24, .bool true), (26, .slice x14 y12.length x15)]) [] [2] [1, 6, 24, 26] [1, 2] false (by kernel_rfl) (by kernel_rfl) (by kernel_rfl) (by kernel_rfl) (by kernel_rfl) (fun _ => rfl) (fun _ _ => rfl) trivial (by rintro ⟨x14, x15⟩; kernel_rfl) (by rintro ⟨x14, x15⟩; kernel_rfl) (w_stripe_Sizes F (S_stripe_Layout.mk 2 2 4) 9 e13) ?_
      rintro ⟨x14, x15⟩
      refine bnd_elim hm (fun y17 e18 hm => ?_)
      refine br_elim hm (fun h19 hm => ?_) (fun h19 hm => ?_)
      · skip
        refine bnd_elim hm (fun y20 e21 hm => ?_)
        refine br_elim hm (fun h22 hm => ?_) (fun h22 hm => ?_)
        · skip
          refine br_elim hm (fun h23 hm => ?_) (fun h23 hm => ?_)
          · skip
            refine bnd_elim hm (fun y24 e25 hm => ?_)
            refine GR.run (i := 9) 17 (env' := fun fr16 => [(0, .bool (y24.toList == (ByteArray.mk #[97, 46, 51]).toList))]) (mem' := fun fr16 => []) (Nat.le_of_ble_eq_true (by kernel_rfl)) (RunsTo.mk [(9, { act := .new (.row 3 1), key := some 3, spf := some (fun f => .slice (some (Addr.mk f.x 0 none)) ([4, 4, 1].length) 3) }), (10, { act := .call [2, 3] (.bool y17) }), (12, { sp := some (.bool true) }), (13, { act := .load 1 0 0 [] }), (14, { act := .call [] (.int .i64 y20) }), (17, { sp := some (.bool true) }), (21, { sp := some (.bool true) }), (22, { act := .call [] (.string y24) })] [0] [] (fun fr16 => [((.slice (some (Addr.mk (fr16 9).x 0 none)) 3 3) : Value) = .slice (some (Addr.mk (fr16 9).x 0 none)) ([4, 4, 1].length) 3, CallOK Tryd.prog 25 #[.slice x14 y12.length x15, .slice (some (Addr.mk (fr16 9).x 0 none)) ([4, 4, 1].length) 3] (.bool y17) [some (o3 x14 x15 y12), some (.osl (some (Addr.mk (fr16 9).x 0 none)) 3 3 1 ([[.int .i64 4], [.int .i64 4], [.int .i64 1]] : List (List Value)))], ((.bool y17) : Value) = .bool true, (fr2 1).x = (fr2 1).x, CallOK Tryd.prog 14 #[.agg #[.int .i64 2, .int .i64 2, .int .i64 4], .int .i64 1, .int .i64 1] (.int .i64 y20) [], ((.bool (y20 == 3)) : Value) = .bool true, ((.bool (!y7.2.2)) : Value) = .bool true, CallOK Tryd.prog 19 #[.string (ByteArray.mk #[97]), .int .i64 3] (.string y24) []]) (fun fr16 => by kernel_rfl) (fun fr16 => ⟨rfl, (w_tholeref01_Ints F x14 x15 y12 (some (Addr.mk (fr16 9).x 0 none)) 3 [4, 4, 1] e18).ok ⟨(.inl ⟨o3 x14 x15 y12, .head _, Cov.osl_rd⟩), (.inl ⟨.osl (some (Addr.mk (fr16 9).x 0 none)) 3 3 1 ([[.int .i64 4], [.int .i64 4], [.int .i64 1]] : List (List Value)), (.tail _ (.head _)), (by rw [show ([[.int .i64 4], [.int .i64 4], [.int .i64 1]] : List (List Value)) = List.map rI [4, 4, 1] from rfl]; exact Cov.osl_rd)⟩), trivial⟩, bool_eq h19, rfl, (w_stripe_Back F (S_stripe_Layout.mk 2 2 4) 1 1 e21).ok trivial, bool_eq h22, bool_eq h23, (w_stripe_Name F (ByteArray.mk #[97]) 3 e25).ok trivial, trivial⟩)) ?_
            intro fr16
            refine GR.done (Nat.le_of_ble_eq_true (by kernel_rfl)) ?_
            have hy := Option.some.inj hm
            subst hy
            refine GS.ret (fn := Tryd.f16) [0] [.bool (y24.toList == (ByteArray.mk #[97, 46, 51]).toList)] [] rfl Tryd.func16 (by kernel_rfl) trivial (fun w' hs => ?_)
            exact ⟨(), rfl, hs.turnedG (ks := []) rfl rfl⟩
          · skip
            refine GR.run (i := 9) 17 (env' := fun fr16 => [(0, .bool false)]) (mem' := fun fr16 => []) (Nat.le_of_ble_eq_true (by kernel_rfl)) (RunsTo.mk [(9, { act := .new (.row 3 1), key := some 3, spf := some (fun f => .slice (some (Addr.mk f.x 0 none)) ([4, 4, 1].length) 3) }), (10, { act := .call [2, 3] (.bool y17) }), (12, { sp := some (.bool true) }), (13, { act := .load 1 0 0 [] }), (14, { act := .call [] (.int .i64 y20) }), (17, { sp := some (.bool true) }), (21, { sp := some (.bool false) })] [0] [] (fun fr16 => [((.slice (some (Addr.mk (fr16 9).x 0 none)) 3 3) : Value) = .slice (some (Addr.mk (fr16 9).x 0 none)) ([4, 4, 1].length) 3, CallOK Tryd.prog 25 #[.slice x14 y12.length x15, .slice (some (Addr.mk (fr16 9).x 0 none)) ([4, 4, 1].length) 3] (.bool y17) [some (o3 x14 x15 y12), some (.osl (some (Addr.mk (fr16 9).x 0 none)) 3 3 1 ([[.int .i64 4], [.int .i64 4], [.int .i64 1]] : List (List Value)))], ((.bool y17) : Value) = .bool true, (fr2 1).x = (fr2 1).x, CallOK Tryd.prog 14 #[.agg #[.int .i64 2, .int .i64 2, .int .i64 4], .int .i64 1, .int .i64 1] (.int .i64 y20) [], ((.bool (y20 == 3)) : Value) = .bool true, ((.bool (!y7.2.2)) : Value) = .bool false]) (fun fr16 => by kernel_rfl) (fun fr16 => ⟨rfl, (w_tholeref01_Ints F x14 x15 y12 (some (Addr.mk (fr16 9).x 0 none)) 3 [4, 4, 1] e18).ok ⟨(.inl ⟨o3 x14 x15 y12, .head _, Cov.osl_rd⟩), (.inl ⟨.osl (some (Addr.mk (fr16 9).x 0 none)) 3 3 1 ([[.int .i64 4], [.int .i64 4], [.int .i64 1]] : List (List Value)), (.tail _ (.head _)), (by rw [show ([[.int .i64 4], [.int .i64 4], [.int .i64 1]] : List (List Value)) = List.map rI [4, 4, 1] from rfl]; exact Cov.osl_rd)⟩), trivial⟩, bool_eq h19, rfl, (w_stripe_Back F (S_stripe_Layout.mk 2 2 4) 1 1 e21).ok trivial, bool_eq h22, bool_eq h23, trivial⟩)) ?_
            intro fr16
            refine GR.done (Nat.le_of_ble_eq_true (by kernel_rfl)) ?_
            have hy := Option.some.inj hm
            subst hy
            refine GS.ret (fn := Tryd.f16) [0] [.bool false] [] rfl Tryd.func16 (by kernel_rfl) trivial (fun w' hs => ?_)
            exact ⟨(), rfl, hs.turnedG (ks := []) rfl rfl⟩
        · skip
          refine GR.run (i := 9) 17 (env' := fun fr16 => [(0, .bool false)]) (mem' := fun fr16 => []) (Nat.le_of_ble_eq_true (by kernel_rfl)) (RunsTo.mk [(9, { act := .new (.row 3 1), key := some 3, spf := some (fun f => .slice (some (Addr.mk f.x 0 none)) ([4, 4, 1].length) 3) }), (10, { act := .call [2, 3] (.bool y17) }), (12, { sp := some (.bool true) }), (13, { act := .load 1 0 0 [] }), (14, { act := .call [] (.int .i64 y20) }), (17, { sp := some (.bool false) })] [0] [] (fun fr16 => [((.slice (some (Addr.mk (fr16 9).x 0 none)) 3 3) : Value) = .slice (some (Addr.mk (fr16 9).x 0 none)) ([4, 4, 1].length) 3, CallOK Tryd.prog 25 #[.slice x14 y12.length x15, .slice (some (Addr.mk (fr16 9).x 0 none)) ([4, 4, 1].length) 3] (.bool y17) [some (o3 x14 x15 y12), some (.osl (some (Addr.mk (fr16 9).x 0 none)) 3 3 1 ([[.int .i64 4], [.int .i64 4], [.int .i64 1]] : List (List Value)))], ((.bool y17) : Value) = .bool true, (fr2 1).x = (fr2 1).x, CallOK Tryd.prog 14 #[.agg #[.int .i64 2, .int .i64 2, .int .i64 4], .int .i64 1, .int .i64 1] (.int .i64 y20) [], ((.bool (y20 == 3)) : Value) = .bool false]) (fun fr16 => by kernel_rfl) (fun fr16 => ⟨rfl, (w_tholeref01_Ints F x14 x15 y12 (some (Addr.mk (fr16 9).x 0 none)) 3 [4, 4, 1] e18).ok ⟨(.inl ⟨o3 x14 x15 y12, .head _, Cov.osl_rd⟩), (.inl ⟨.osl (some (Addr.mk (fr16 9).x 0 none)) 3 3 1 ([[.int .i64 4], [.int .i64 4], [.int .i64 1]] : List (List Value)), (.tail _ (.head _)), (by rw [show ([[.int .i64 4], [.int .i64 4], [.int .i64 1]] : List (List Value)) = List.map rI [4, 4, 1] from rfl]; exact Cov.osl_rd)⟩), trivial⟩, bool_eq h19, rfl, (w_stripe_Back F (S_stripe_Layout.mk 2 2 4) 1 1 e21).ok trivial, bool_eq h22, trivial⟩)) ?_
          intro fr16
          refine GR.done (Nat.le_of_ble_eq_true (by kernel_rfl)) ?_
          have hy := Option.some.inj hm
          subst hy
          refine GS.ret (fn := Tryd.f16) [0] [.bool false] [] rfl Tryd.func16 (by kernel_rfl) trivial (fun w' hs => ?_)
          exact ⟨(), rfl, hs.turnedG (ks := []) rfl rfl⟩
      · skip
        refine GR.run (i := 9) 17 (env' := fun fr16 => [(0, .bool false)]) (mem' := fun fr16 => []) (Nat.le_of_ble_eq_true (by kernel_rfl)) (RunsTo.mk [(9, { act := .new (.row 3 1), key := some 3, spf := some (fun f => .slice (some (Addr.mk f.x 0 none)) ([4, 4, 1].length) 3) }), (10, { act := .call [2, 3] (.bool y17) }), (12, { sp := some (.bool false) })] [0] [] (fun fr16 => [((.slice (some (Addr.mk (fr16 9).x 0 none)) 3 3) : Value) = .slice (some (Addr.mk (fr16 9).x 0 none)) ([4, 4, 1].length) 3, CallOK Tryd.prog 25 #[.slice x14 y12.length x15, .slice (some (Addr.mk (fr16 9).x 0 none)) ([4, 4, 1].length) 3] (.bool y17) [some (o3 x14 x15 y12), some (.osl (some (Addr.mk (fr16 9).x 0 none)) 3 3 1 ([[.int .i64 4], [.int .i64 4], [.int .i64 1]] : List (List Value)))], ((.bool y17) : Value) = .bool false]) (fun fr16 => by kernel_rfl) (fun fr16 => ⟨rfl, (w_tholeref01_Ints F x14 x15 y12 (some (Addr.mk (fr16 9).x 0 none)) 3 [4, 4, 1] e18).ok ⟨(.inl ⟨o3 x14 x15 y12, .head _, Cov.osl_rd⟩), (.inl ⟨.osl (some (Addr.mk (fr16 9).x 0 none)) 3 3 1 ([[.int .i64 4], [.int .i64 4], [.int .i64 1]] : List (List Value)), (.tail _ (.head _)), (by rw [show ([[.int .i64 4], [.int .i64 4], [.int .i64 1]] : List (List Value)) = List.map rI [4, 4, 1] from rfl]; exact Cov.osl_rd)⟩), trivial⟩, bool_eq h19, trivial⟩)) ?_
        intro fr16
        refine GR.done (Nat.le_of_ble_eq_true (by kernel_rfl)) ?_
        have hy := Option.some.inj hm
        subst hy
        refine GS.ret (fn := Tryd.f16) [0] [.bool false] [] rfl Tryd.func16 (by kernel_rfl) trivial (fun w' hs => ?_)
        exact ⟨(), rfl, hs.turnedG (ks := []) rfl rfl⟩
    · skip
      refine GS.region (env' := fun _ => [(0, .bool false)]) (mem' := fun _ => []) (RunsTo.mk [(2, { sp := some (.bool true) }), (6, { sp := some (.bool false) })] [0] [] (fun _ => [((.bool (y4.1 == 2)) : Value) = .bool true, ((.bool (y4.2 == 0)) : Value) = .bool false]) (fun _ => by kernel_rfl) (fun _ => ⟨bool_eq h10, bool_eq h11, trivial⟩)) ?_
      intro _
      have hy := Option.some.inj hm
      subst hy
      refine GS.ret (fn := Tryd.f16) [0] [.bool false] [] rfl Tryd.func16 (by kernel_rfl) trivial (fun w' hs => ?_)
      exact ⟨(), rfl, hs.turnedG (ks := []) rfl rfl⟩
  · skip
    refine GS.region (env' := fun _ => [(0, .bool false)]) (mem' := fun _ => []) (RunsTo.mk [(2, { sp := some (.bool false) })] [0] [] (fun _ => [((.bool (y4.1 == 2)) : Value) = .bool false]) (fun _ => by kernel_rfl) (fun _ => ⟨bool_eq h10, trivial⟩)) ?_
    intro _
    have hy := Option.some.inj hm
    subst hy
    refine GS.ret (fn := Tryd.f16) [0] [.bool false] [] rfl Tryd.func16 (by kernel_rfl) trivial (fun w' hs => ?_)
    exact ⟨(), rfl, hs.turnedG (ks := []) rfl rfl⟩

theorem w_tholelaw24_StripePlaces (F : Nat) (a0 : S_stripe_Layout) (a1 : Int) (a2 : Int) {y : Bool} (hm : m_tholelaw24_StripePlaces F a0 a1 a2 = some y) : CallG Tryd.prog 3 #[.agg #[.int .i64 a0.Unit, .int .i64 a0.Count, .int .i64 a0.Size], .int .i64 a1, .int .i64 a2] (X := Unit) (fun (_ : Unit) => .bool y) [] [] (fun (_ : Unit) => []) := by
  intro w hg
  rw [m_tholelaw24_StripePlaces] at hm
  refine GS.start (S := mayT [] []) (mem := []) Tryd.func3 rfl Tryd.ntmps3 (Nat.le_of_ble_eq_true rfl) (hg.start rfl) ?_
  refine GS.conv (env' := [(0, .agg #[.int .i64 a0.Unit, .int .i64 a0.Count, .int .i64 a0.Size]), (1, .int .i64 a1), (2, .int .i64 a2)]) rfl rfl ?_
  refine GS.seq ?_
  refine GS.region (env' := fun fr1 => [(1, .int .i64 a1), (2, .int .i64 a2), (3, .pointer (some ⟨(fr1 0).x, 0, none⟩))]) (mem' := fun fr1 => [(1, .cells ((fr1 0).x) 23 [.int .i64 a0.Unit, .int .i64 a0.Count, .int .i64 a0.Size])]) (RunsTo.mk [(0, { act := .new .var, key := some 1 })] [1, 2, 3] [1] (fun fr1 => []) (fun fr1 => by kernel_rfl) (fun fr1 => trivial)) ?_
  intro fr1
  refine GS.seq ?_
  refine bnd_elim hm (fun y3 e4 hm => ?_)
  refine GS.region (env' := fun fr2 => [(1, .int .i64 a1), (2, .int .i64 a2), (3, .pointer (some ⟨(fr1 0).x, 0, none⟩)), (7, .pointer (some ⟨(fr2 2).x, 0, none⟩))]) (mem' := fun fr2 => [(1, .cells ((fr1 0).x) 23 [.int .i64 a0.Unit, .int .i64 a0.Count, .int .i64 a0.Size]), (2, .cells ((fr2 2).x) 24 [.int .i64 y3.Unit, .int .i64 y3.Count, .int .i64 y3.Size])]) (RunsTo.mk [(0, { act := .load 1 0 0 [] }), (1, { act := .call [] (.agg #[.int .i64 y3.Unit, .int .i64 y3.Count, .int .i64 y3.Size]) }), (2, { act := .new .var, key := some 2 }), (3, { act := .store 0 0 [], key := some 2 })] [1, 2, 3, 7] [1, 2] (fun fr2 => [(fr1 0).x = (fr1 0).x, CallOK Tryd.prog 9 #[.agg #[.int .i64 a0.Unit, .int .i64 a0.Count, .int .i64 a0.Size]] (.agg #[.int .i64 y3.Unit, .int .i64 y3.Count, .int .i64 y3.Size]) [], (fr2 2).x = (fr2 2).x, ((.agg #[.int .i64 y3.Unit, .int .i64 y3.Count, .int .i64 y3.Size]) : Value).cells.toList.all Value.oneCell' = true]) (fun fr2 => by kernel_rfl) (fun fr2 => ⟨rfl, (w_tholelaw24_plain F a0 e4).ok trivial, rfl, rfl, trivial⟩)) ?_
  intro fr2
  refine GS.seq ?_
  refine bnd_elim hm (fun y6 e7 hm => ?_)
  refine GS.region (env' := fun _ => [(1, .int .i64 a1), (2, .int .i64 a2), (3, .pointer (some ⟨(fr1 0).x, 0, none⟩)), (7, .pointer (some ⟨(fr2 2).x, 0, none⟩)), (8, .int .i64 y6.1), (9, .int .i64 y6.2)]) (mem' := fun _ => [(1, .cells ((fr1 0).x) 23 [.int .i64 a0.Unit, .int .i64 a0.Count, .int .i64 a0.Size]), (2, .cells ((fr2 2).x) 24 [.int .i64 y3.Unit, .int .i64 y3.Count, .int .i64 y3.Size])]) (RunsTo.mk [(0, { act := .load 1 0 0 [] }), (2, { act := .call [] (.tuple #[.int .i64 y6.1, .int .i64 y6.2]) })] [1, 2, 3, 7, 8, 9] [1, 2] (fun _ => [(fr1 0).x = (fr1 0).x, CallOK Tryd.prog 10 #[.agg #[.int .i64 a0.Unit, .int .i64 a0.Count, .int .i64 a0.Size], .int .i64 a1] (.tuple #[.int .i64 y6.1, .int .i64 y6.2]) []]) (fun _ => by kernel_rfl) (fun _ => ⟨rfl, (w_stripe_Place F a0 a1 e7).ok trivial, trivial⟩)) ?_
  intro _
  refine GS.seq ?_
  refine bnd_elim hm (fun y9 e10 hm => ?_)
  refine GS.region (env' := fun _ => [(1, .int .i64 a1), (2, .int .i64 a2), (3, .pointer (some ⟨(fr1 0).x, 0, none⟩)), (7, .pointer (some ⟨(fr2 2).x, 0, none⟩)), (8, .int .i64 y6.1), (9, .int .i64 y6.2), (10, .int .i64 y9.1), (11, .int .i64 y9.2)]) (mem' := fun _ => [(1, .cells ((fr1 0).x) 23 [.int .i64 a0.Unit, .int .i64 a0.Count, .int .i64 a0.Size]), (2, .cells ((fr2 2).x) 24 [.int .i64 y3.Unit, .int .i64 y3.Count, .int .i64 y3.Size])]) (RunsTo.mk [(0, { act := .load 2 0 0 [] }), (2, { act := .call [] (.tuple #[.int .i64 y9.1, .int .i64 y9.2]) })] [1, 2, 3, 7, 8, 9, 10, 11] [1, 2] (fun _ => [(fr2 2).x = (fr2 2).x, CallOK Tryd.prog 11 #[.agg #[.int .i64 y3.Unit, .int .i64 y3.Count, .int .i64 y3.Size], .int .i64 a1] (.tuple #[.int .i64 y9.1, .int .i64 y9.2]) []]) (fun _ => by kernel_rfl) (fun _ => ⟨rfl, (w_tholeref24_Place F y3 a1 e10).ok trivial, trivial⟩)) ?_
  intro _
  refine GS.seq ?_
  refine bnd_elim hm (fun y12 e13 hm => ?_)
  refine bnd_elim hm (fun y14 e15 hm => ?_)
  refine br_elim hm (fun h16 hm => ?_) (fun h16 hm => ?_)
  · skip
    refine br_elim hm (fun h17 hm => ?_) (fun h17 hm => ?_)
    · skip
      refine br_elim hm (fun h18 hm => ?_) (fun h18 hm => ?_)
      · skip
        refine bnd_elim hm (fun y19 e20 hm => ?_)
        refine bnd_elim hm (fun y21 e22 hm => ?_)
        refine br_elim hm (fun h23 hm => ?_) (fun h23 hm => ?_)
        · skip
          refine bnd_elim hm (fun y24 e25 hm => ?_)
          refine GS.region (env' := fun _ => [(6, .bool y24)]) (mem' := fun _ => []) (RunsTo.mkd [(0, { act := .load 1 0 0 [] }), (1, { act := .call [] (.bool y12) }), (2, { act := .load 2 0 0 [] }), (3, { act := .call [] (.bool y14) }), (5, { sp := some (.bool true) }), (10, { sp := some (.bool true) }), (15, { sp := some (.bool true) }), (16, { act := .load 1 0 0 [] }), (19, { act := .call [] (.int .i64 y19) }), (20, { act := .load 2 0 0 [] }), (23, { act := .call [] (.int .i64 y21) }), (26, { sp := some (.bool true) }), (27, { act := .call [] (.bool y24) })] [6] [] (fun _ => [(fr1 0).x = (fr1 0).x, CallOK Tryd.prog 12 #[.agg #[.int .i64 a0.Unit, .int .i64 a0.Count, .int .i64 a0.Size]] (.bool y12) [], (fr2 2).x = (fr2 2).x, CallOK Tryd.prog 13 #[.agg #[.int .i64 y3.Unit, .int .i64 y3.Count, .int .i64 y3.Size]] (.bool y14) [], ((.bool (y12 == y14)) : Value) = .bool true, ((.bool (y6.1 == y9.1)) : Value) = .bool true, ((.bool (y6.2 == y9.2)) : Value) = .bool true, (fr1 0).x = (fr1 0).x, CallOK Tryd.prog 14 #[.agg #[.int .i64 a0.Unit, .int .i64 a0.Count, .int .i64 a0.Size], .int .i64 a2, .int .i64 a1] (.int .i64 y19) [], (fr2 2).x = (fr2 2).x, CallOK Tryd.prog 15 #[.agg #[.int .i64 y3.Unit, .int .i64 y3.Count, .int .i64 y3.Size], .int .i64 a2, .int .i64 a1] (.int .i64 y21) [], ((.bool (y19 == y21)) : Value) = .bool true, CallOK Tryd.prog 16 #[] (.bool y24) []]) (by kernel_rfl) (by kernel_rfl) (fun _ => by kernel_rfl) (fun _ => ⟨rfl, (w_stripe_Good F a0 e13).ok trivial, rfl, (w_tholeref24_Good F y3 e15).ok trivial, bool_eq h16, bool_eq h17, bool_eq h18, rfl, (w_stripe_Back F a0 a2 a1 e20).ok trivial, rfl, (w_tholeref24_Back F y3 a2 a1 e22).ok trivial, bool_eq h23, (w_tholelaw24_lives F  e25).ok trivial, trivial⟩)) ?_
          intro _
          have hy := Option.some.inj hm
          subst hy
          refine GS.ret (fn := Tryd.f3) [0] [.bool y24] [] rfl Tryd.func3 (by kernel_rfl) trivial (fun w' hs => ?_)
          exact ⟨(), rfl, hs.turnedG (ks := []) rfl rfl⟩
        · skip
          refine GS.region (env' := fun _ => [(6, .bool false)]) (mem' := fun _ => []) (RunsTo.mkd [(0, { act := .load 1 0 0 [] }), (1, { act := .call [] (.bool y12) }), (2, { act := .load 2 0 0 [] }), (3, { act := .call [] (.bool y14) }), (5, { sp := some (.bool true) }), (10, { sp := some (.bool true) }), (15, { sp := some (.bool true) }), (16, { act := .load 1 0 0 [] }), (19, { act := .call [] (.int .i64 y19) }), (20, { act := .load 2 0 0 [] }), (23, { act := .call [] (.int .i64 y21) }), (26, { sp := some (.bool false) })] [6] [] (fun _ => [(fr1 0).x = (fr1 0).x, CallOK Tryd.prog 12 #[.agg #[.int .i64 a0.Unit, .int .i64 a0.Count, .int .i64 a0.Size]] (.bool y12) [], (fr2 2).x = (fr2 2).x, CallOK Tryd.prog 13 #[.agg #[.int .i64 y3.Unit, .int .i64 y3.Count, .int .i64 y3.Size]] (.bool y14) [], ((.bool (y12 == y14)) : Value) = .bool true, ((.bool (y6.1 == y9.1)) : Value) = .bool true, ((.bool (y6.2 == y9.2)) : Value) = .bool true, (fr1 0).x = (fr1 0).x, CallOK Tryd.prog 14 #[.agg #[.int .i64 a0.Unit, .int .i64 a0.Count, .int .i64 a0.Size], .int .i64 a2, .int .i64 a1] (.int .i64 y19) [], (fr2 2).x = (fr2 2).x, CallOK Tryd.prog 15 #[.agg #[.int .i64 y3.Unit, .int .i64 y3.Count, .int .i64 y3.Size], .int .i64 a2, .int .i64 a1] (.int .i64 y21) [], ((.bool (y19 == y21)) : Value) = .bool false]) (by kernel_rfl) (by kernel_rfl) (fun _ => by kernel_rfl) (fun _ => ⟨rfl, (w_stripe_Good F a0 e13).ok trivial, rfl, (w_tholeref24_Good F y3 e15).ok trivial, bool_eq h16, bool_eq h17, bool_eq h18, rfl, (w_stripe_Back F a0 a2 a1 e20).ok trivial, rfl, (w_tholeref24_Back F y3 a2 a1 e22).ok trivial, bool_eq h23, trivial⟩)) ?_
          intro _
          have hy := Option.some.inj hm
          subst hy
          refine GS.ret (fn := Tryd.f3) [0] [.bool false] [] rfl Tryd.func3 (by kernel_rfl) trivial (fun w' hs => ?_)
          exact ⟨(), rfl, hs.turnedG (ks := []) rfl rfl⟩
      · skip
        refine GS.region (env' := fun _ => [(6, .bool false)]) (mem' := fun _ => []) (RunsTo.mkd [(0, { act := .load 1 0 0 [] }), (1, { act := .call [] (.bool y12) }), (2, { act := .load 2 0 0 [] }), (3, { act := .call [] (.bool y14) }), (5, { sp := some (.bool true) }), (10, { sp := some (.bool true) }), (15, { sp := some (.bool false) })] [6] [] (fun _ => [(fr1 0).x = (fr1 0).x, CallOK Tryd.prog 12 #[.agg #[.int .i64 a0.Unit, .int .i64 a0.Count, .int .i64 a0.Size]] (.bool y12) [], (fr2 2).x = (fr2 2).x, CallOK Tryd.prog 13 #[.agg #[.int .i64 y3.Unit, .int .i64 y3.Count, .int .i64 y3.Size]] (.bool y14) [], ((.bool (y12 == y14)) : Value) = .bool true, ((.bool (y6.1 == y9.1)) : Value) = .bool true, ((.bool (y6.2 == y9.2)) : Value) = .bool false]) (by kernel_rfl) (by kernel_rfl) (fun _ => by kernel_rfl) (fun _ => ⟨rfl, (w_stripe_Good F a0 e13).ok trivial, rfl, (w_tholeref24_Good F y3 e15).ok trivial, bool_eq h16, bool_eq h17, bool_eq h18, trivial⟩)) ?_
        intro _
        have hy := Option.some.inj hm
        subst hy
        refine GS.ret (fn := Tryd.f3) [0] [.bool false] [] rfl Tryd.func3 (by kernel_rfl) trivial (fun w' hs => ?_)
        exact ⟨(), rfl, hs.turnedG (ks := []) rfl rfl⟩
    · skip
      refine GS.region (env' := fun _ => [(6, .bool false)]) (mem' := fun _ => []) (RunsTo.mkd [(0, { act := .load 1 0 0 [] }), (1, { act := .call [] (.bool y12) }), (2, { act := .load 2 0 0 [] }), (3, { act := .call [] (.bool y14) }), (5, { sp := some (.bool true) }), (10, { sp := some (.bool false) })] [6] [] (fun _ => [(fr1 0).x = (fr1 0).x, CallOK Tryd.prog 12 #[.agg #[.int .i64 a0.Unit, .int .i64 a0.Count, .int .i64 a0.Size]] (.bool y12) [], (fr2 2).x = (fr2 2).x, CallOK Tryd.prog 13 #[.agg #[.int .i64 y3.Unit, .int .i64 y3.Count, .int .i64 y3.Size]] (.bool y14) [], ((.bool (y12 == y14)) : Value) = .bool true, ((.bool (y6.1 == y9.1)) : Value) = .bool false]) (by kernel_rfl) (by kernel_rfl) (fun _ => by kernel_rfl) (fun _ => ⟨rfl, (w_stripe_Good F a0 e13).ok trivial, rfl, (w_tholeref24_Good F y3 e15).ok trivial, bool_eq h16, bool_eq h17, trivial⟩)) ?_
      intro _
      have hy := Option.some.inj hm
      subst hy
      refine GS.ret (fn := Tryd.f3) [0] [.bool false] [] rfl Tryd.func3 (by kernel_rfl) trivial (fun w' hs => ?_)
      exact ⟨(), rfl, hs.turnedG (ks := []) rfl rfl⟩
  · skip
    refine GS.region (env' := fun _ => [(6, .bool false)]) (mem' := fun _ => []) (RunsTo.mkd [(0, { act := .load 1 0 0 [] }), (1, { act := .call [] (.bool y12) }), (2, { act := .load 2 0 0 [] }), (3, { act := .call [] (.bool y14) }), (5, { sp := some (.bool false) })] [6] [] (fun _ => [(fr1 0).x = (fr1 0).x, CallOK Tryd.prog 12 #[.agg #[.int .i64 a0.Unit, .int .i64 a0.Count, .int .i64 a0.Size]] (.bool y12) [], (fr2 2).x = (fr2 2).x, CallOK Tryd.prog 13 #[.agg #[.int .i64 y3.Unit, .int .i64 y3.Count, .int .i64 y3.Size]] (.bool y14) [], ((.bool (y12 == y14)) : Value) = .bool false]) (by kernel_rfl) (by kernel_rfl) (fun _ => by kernel_rfl) (fun _ => ⟨rfl, (w_stripe_Good F a0 e13).ok trivial, rfl, (w_tholeref24_Good F y3 e15).ok trivial, bool_eq h16, trivial⟩)) ?_
    intro _
    have hy := Option.some.inj hm
    subst hy
    refine GS.ret (fn := Tryd.f3) [0] [.bool false] [] rfl Tryd.func3 (by kernel_rfl) trivial (fun w' hs => ?_)
    exact ⟨(), rfl, hs.turnedG (ks := []) rfl rfl⟩

theorem w_tholeref24_Extents (F : Nat) (a0 : S_tholeref24_Layout) (a1 : Int) (a2 : Int) {y : List S_tholeref24_Extent} (hm : m_tholeref24_Extents F a0 a1 a2 = some y) : CallG Tryd.prog 22 #[.agg #[.int .i64 a0.Unit, .int .i64 a0.Count, .int .i64 a0.Size], .int .i64 a1, .int .i64 a2] (X := Option Addr × Nat) (fun ⟨x0, x1⟩ => .slice x0 y.length x1) [] [] (fun ⟨x0, x1⟩ => [o45 x0 x1 y]) := by
  intro w hg
  rw [m_tholeref24_Extents] at hm
  refine GS.start (S := mayT [] []) (mem := []) Tryd.func22 rfl Tryd.ntmps22 (Nat.le_of_ble_eq_true rfl) (hg.start rfl) ?_
  refine GS.conv (env' := [(0, .agg #[.int .i64 a0.Unit, .int .i64 a0.Count, .int .i64 a0.Size]), (1, .int .i64 a1), (2, .int .i64 a2)]) rfl rfl ?_
  refine GS.seq ?_
  refine GS.region (env' := fun fr1 => [(1, .int .i64 a1), (2, .int .i64 a2), (3, .pointer (some ⟨(fr1 0).x, 0, none⟩))]) (mem' := fun fr1 => [(1, .cells ((fr1 0).x) 24 [.int .i64 a0.Unit, .int .i64 a0.Count, .int .i64 a0.Size])]) (RunsTo.mk [(0, { act := .new .var, key := some 1 })] [1, 2, 3] [1] (fun fr1 => []) (fun fr1 => by kernel_rfl) (fun fr1 => trivial)) ?_
  intro fr1
  refine GS.seq ?_
  refine GS.seq ?_
  refine jn_elim hm (fun J10 hJ12 hm => ?_)
  refine GS.cut (ι := Bool) (I := fun (v32_0 : Bool) => J10 v32_0 = some y) (E := fun (v32_0 : Bool) => [(1, .int .i64 a1), (2, .int .i64 a2), (3, .pointer (some ⟨(fr1 0).x, 0, none⟩)), (32, .bool v32_0)]) (M := fun (v32_0 : Bool) => [(1, .cells ((fr1 0).x) 24 [.int .i64 a0.Unit, .int .i64 a0.Count, .int .i64 a0.Size])]) ?_ ?_
  rotate_left
  · intro H11
    refine bnd_elim hm (fun y3 e4 hm => ?_)
    refine br_elim hm (fun h5 hm => ?_) (fun h5 hm => ?_)
    · skip
      refine GS.region (env' := fun _ => [(1, .int .i64 a1), (2, .int .i64 a2), (3, .pointer (some ⟨(fr1 0).x, 0, none⟩)), (32, .bool true)]) (mem' := fun _ => [(1, .cells ((fr1 0).x) 24 [.int .i64 a0.Unit, .int .i64 a0.Count, .int .i64 a0.Size])]) (RunsTo.mk [(0, { act := .load 1 0 0 [] }), (1, { act := .call [] (.bool y3) }), (3, { sp := some (.bool true) })] [1, 2, 3, 32] [1] (fun _ => [(fr1 0).x = (fr1 0).x, CallOK Tryd.prog 13 #[.agg #[.int .i64 a0.Unit, .int .i64 a0.Count, .int .i64 a0.Size]] (.bool y3) [], ((.bool (!y3)) : Value) = .bool true]) (fun _ => by kernel_rfl) (fun _ => ⟨rfl, (w_tholeref24_Good F a0 e4).ok trivial, bool_eq h5, trivial⟩)) ?_
      intro _
      refine GS.rekey (env' := [(1, .int .i64 a1), (2, .int .i64 a2), (3, .pointer (some ⟨(fr1 0).x, 0, none⟩)), (32, .bool true)]) (mem' := [(1, .cells ((fr1 0).x) 24 [.int .i64 a0.Unit, .int .i64 a0.Count, .int .i64 a0.Size])]) [1, 2, 3, 32] [(1, 1)] (by kernel_rfl) (by kernel_rfl) rfl ?_
      exact H11 true hm
    · skip
      refine br_elim hm (fun h6 hm => ?_) (fun h6 hm => ?_)
      · skip
        refine GS.region (env' := fun _ => [(1, .int .i64 a1), (2, .int .i64 a2), (3, .pointer (some ⟨(fr1 0).x, 0, none⟩)), (32, .bool true)]) (mem' := fun _ => [(1, .cells ((fr1 0).x) 24 [.int .i64 a0.Unit, .int .i64 a0.Count, .int .i64 a0.Size])]) (RunsTo.mk [(0, { act := .load 1 0 0 [] }), (1, { act := .call [] (.bool y3) }), (3, { sp := some (.bool false) }), (7, { sp := some (.bool true) })] [1, 2, 3, 32] [1] (fun _ => [(fr1 0).x = (fr1 0).x, CallOK Tryd.prog 13 #[.agg #[.int .i64 a0.Unit, .int .i64 a0.Count, .int .i64 a0.Size]] (.bool y3) [], ((.bool (!y3)) : Value) = .bool false, ((.bool (decide (a1 < 0))) : Value) = .bool true]) (fun _ => by kernel_rfl) (fun _ => ⟨rfl, (w_tholeref24_Good F a0 e4).ok trivial, bool_eq h5, bool_eq h6, trivial⟩)) ?_
        intro _
        refine GS.rekey (env' := [(1, .int .i64 a1), (2, .int .i64 a2), (3, .pointer (some ⟨(fr1 0).x, 0, none⟩)), (32, .bool true)]) (mem' := [(1, .cells ((fr1 0).x) 24 [.int .i64 a0.Unit, .int .i64 a0.Count, .int .i64 a0.Size])]) [1, 2, 3, 32] [(1, 1)] (by kernel_rfl) (by kernel_rfl) rfl ?_
        exact H11 true hm
      · skip
        refine br_elim hm (fun h7 hm => ?_) (fun h7 hm => ?_)
        · skip
          refine GS.region (env' := fun _ => [(1, .int .i64 a1), (2, .int .i64 a2), (3, .pointer (some ⟨(fr1 0).x, 0, none⟩)), (32, .bool true)]) (mem' := fun _ => [(1, .cells ((fr1 0).x) 24 [.int .i64 a0.Unit, .int .i64 a0.Count, .int .i64 a0.Size])]) (RunsTo.mk [(0, { act := .load 1 0 0 [] }), (1, { act := .call [] (.bool y3) }), (3, { sp := some (.bool false) }), (7, { sp := some (.bool false) }), (11, { sp := some (.bool true) })] [1, 2, 3, 32] [1] (fun _ => [(fr1 0).x = (fr1 0).x, CallOK Tryd.prog 13 #[.agg #[.int .i64 a0.Unit, .int .i64 a0.Count, .int .i64 a0.Size]] (.bool y3) [], ((.bool (!y3)) : Value) = .bool false, ((.bool (decide (a1 < 0))) : Value) = .bool false, ((.bool (decide (a2 < 0))) : Value) = .bool true]) (fun _ => by kernel_rfl) (fun _ => ⟨rfl, (w_tholeref24_Good F a0 e4).ok trivial, bool_eq h5, bool_eq h6, bool_eq h7, trivial⟩)) ?_
          intro _
          refine GS.rekey (env' := [(1, .int .i64 a1), (2, .int .i64 a2), (3, .pointer (some ⟨(fr1 0).x, 0, none⟩)), (32, .bool true)]) (mem' := [(1, .cells ((fr1 0).x) 24 [.int .i64 a0.Unit, .int .i64 a0.Count, .int .i64 a0.Size])]) [1, 2, 3, 32] [(1, 1)] (by kernel_rfl) (by kernel_rfl) rfl ?_
          exact H11 true hm
        · skip
          refine br_elim hm (fun h8 hm => ?_) (fun h8 hm => ?_)
          · skip
            refine GS.region (env' := fun _ => [(1, .int .i64 a1), (2, .int .i64 a2), (3, .pointer (some ⟨(fr1 0).x, 0, none⟩)), (32, .bool true)]) (mem' := fun _ => [(1, .cells ((fr1 0).x) 24 [.int .i64 a0.Unit, .int .i64 a0.Count, .int .i64 a0.Size])]) (RunsTo.mk [(0, { act := .load 1 0 0 [] }), (1, { act := .call [] (.bool y3) }), (3, { sp := some (.bool false) }), (7, { sp := some (.bool false) }), (11, { sp := some (.bool false) }), (15, { sp := some (.bool true) })] [1, 2, 3, 32] [1] (fun _ => [(fr1 0).x = (fr1 0).x, CallOK Tryd.prog 13 #[.agg #[.int .i64 a0.Unit, .int .i64 a0.Count, .int .i64 a0.Size]] (.bool y3) [], ((.bool (!y3)) : Value) = .bool false, ((.bool (decide (a1 < 0))) : Value) = .bool false, ((.bool (decide (a2 < 0))) : Value) = .bool false, ((.bool (decide (a1 > 65536))) : Value) = .bool true]) (fun _ => by kernel_rfl) (fun _ => ⟨rfl, (w_tholeref24_Good F a0 e4).ok trivial, bool_eq h5, bool_eq h6, bool_eq h7, bool_eq h8, trivial⟩)) ?_
            intro _
            refine GS.rekey (env' := [(1, .int .i64 a1), (2, .int .i64 a2), (3, .pointer (some ⟨(fr1 0).x, 0, none⟩)), (32, .bool true)]) (mem' := [(1, .cells ((fr1 0).x) 24 [.int .i64 a0.Unit, .int .i64 a0.Count, .int .i64 a0.Size])]) [1, 2, 3, 32] [(1, 1)] (by kernel_rfl) (by kernel_rfl) rfl ?_
            exact H11 true hm
          · skip
            refine grd_elim hm (fun g9 hm => ?_)
            refine GS.region (env' := fun _ => [(1, .int .i64 a1), (2, .int .i64 a2), (3, .pointer (some ⟨(fr1 0).x, 0, none⟩)), (32, .bool (decide (a2 > (65536 - a1))))]) (mem' := fun _ => [(1, .cells ((fr1 0).x) 24 [.int .i64 a0.Unit, .int .i64 a0.Count, .int .i64 a0.Size])]) (RunsTo.mk [(0, { act := .load 1 0 0 [] }), (1, { act := .call [] (.bool y3) }), (3, { sp := some (.bool false) }), (7, { sp := some (.bool false) }), (11, { sp := some (.bool false) }), (15, { sp := some (.bool false) }), (18, { sp := some (.int .i64 (65536 - a1)) })] [1, 2, 3, 32] [1] (fun _ => [(fr1 0).x = (fr1 0).x, CallOK Tryd.prog 13 #[.agg #[.int .i64 a0.Unit, .int .i64 a0.Count, .int .i64 a0.Size]] (.bool y3) [], ((.bool (!y3)) : Value) = .bool false, ((.bool (decide (a1 < 0))) : Value) = .bool false, ((.bool (decide (a2 < 0))) : Value) = .bool false, ((.bool (decide (a1 > 65536))) : Value) = .bool false, ((.int .i64 (IntKind.i64.wrap (65536 - a1))) : Value) = .int .i64 (65536 - a1)]) (fun _ => by kernel_rfl) (fun _ => ⟨rfl, (w_tholeref24_Good F a0 e4).ok trivial, bool_eq h5, bool_eq h6, bool_eq h7, bool_eq h8, I64.w g9, trivial⟩)) ?_
            intro _
            refine GS.rekey (env' := [(1, .int .i64 a1), (2, .int .i64 a2), (3, .pointer (some ⟨(fr1 0).x, 0, none⟩)), (32, .bool (decide (a2 > (65536 - a1))))]) (mem' := [(1, .cells ((fr1 0).x) 24 [.int .i64 a0.Unit, .int .i64 a0.Count, .int .i64 a0.Size])]) [1, 2, 3, 32] [(1, 1)] (by kernel_rfl) (by kernel_rfl) rfl ?_
            exact H11 (decide (a2 > (65536 - a1))) hm
  · rintro v32_0 hm
    replace hm := (hJ12 _).symm.trans hm
    try dsimp only at hm
    refine GS.cond (t := v32_0) rfl rfl (fun h13 => ?_) (fun h13 => ?_)
    · replace hm := br_t h13 hm
      refine GS.seq ?_
      refine GS.region (env' := fun _ => [(6, .slice none 0 0)]) (mem' := fun _ => []) (RunsTo.mk [] [6] [] (fun _ => []) (fun _ => by kernel_rfl) (fun _ => trivial)) ?_
      intro _
      refine GS.setMem (mem' := [(2, o45 none 0 ([] : List S_tholeref24_Extent))]) (fun w hw => Sat.addNil hw rfl) ?_
      have hy := Option.some.inj hm
      subst hy
      refine GS.ret (fn := Tryd.f22) [0] [.slice none 0 0] [] rfl Tryd.func22 (by kernel_rfl) trivial (fun w' hs => ?_)
      exact ⟨⟨none, 0⟩, rfl, hs.turnedG (ks := [2]) rfl rfl⟩
    · replace hm := br_f h13 hm
      refine GS.skip ?_
      refine GS.seq ?_
      refine GS.region (env' := fun _ => [(1, .int .i64 a1), (2, .int .i64 a2), (3, .pointer (some ⟨(fr1 0).x, 0, none⟩)), (7, .slice none 0 0)]) (mem' := fun _ => [(1, .cells ((fr1 0).x) 24 [.int .i64 a0.Unit, .int .i64 a0.Count, .int .i64 a0.Size])]) (RunsTo.mk [] [1, 2, 3, 7] [1] (fun _ => []) (fun _ => by kernel_rfl) (fun _ => trivial)) ?_
      intro _
      refine GS.seq ?_
      refine GS.seq ?_
      refine GS.region (env' := fun _ => [(1, .int .i64 a1), (2, .int .i64 a2), (3, .pointer (some ⟨(fr1 0).x, 0, none⟩)), (7, .slice none 0 0), (8, .int .i64 a1)]) (mem' := fun _ => [(1, .cells ((fr1 0).x) 24 [.int .i64 a0.Unit, .int .i64 a0.Count, .int .i64 a0.Size])]) (RunsTo.mk [] [1, 2, 3, 7, 8] [1] (fun _ => []) (fun _ => by kernel_rfl) (fun _ => trivial)) ?_
      intro _
      refine GS.block ?_
      refine GS.loop ?_
      refine GS.setMem (mem' := [(1, .cells ((fr1 0).x) 24 [.int .i64 a0.Unit, .int .i64 a0.Count, .int .i64 a0.Size]), (20001, o45 none 0 ([] : List S_tholeref24_Extent))]) (fun w hw => Sat.addNil hw rfl) ?_
      refine GS.rekey (env' := [(1, .int .i64 a1), (2, .int .i64 a2), (3, .pointer (some ⟨(fr1 0).x, 0, none⟩)), (7, .slice none 0 0), (8, .int .i64 a1)]) (mem' := [(1, .cells ((fr1 0).x) 24 [.int .i64 a0.Unit, .int .i64 a0.Count, .int .i64 a0.Size]), (20000, o45 none 0 ([] : List S_tholeref24_Extent))]) [1, 2, 3, 7, 8] [(1, 1), (20000, 20001)] (by kernel_rfl) (by kernel_rfl) rfl ?_
      refine loopW_elim hm (fun st81 hst83 hm => ?_)
      refine GS.loopInv (ι := Nat × Int × List S_tholeref24_Extent × Option Addr × Nat) (I := fun ⟨rs79, v8_1, l20000_1, o20000_1, k20000_1⟩ => loopW st81 rs79 (v8_1, l20000_1) = some y) (μ := fun ⟨rs79, v8_1, l20000_1, o20000_1, k20000_1⟩ => rs79) (E := fun ⟨rs79, v8_1, l20000_1, o20000_1, k20000_1⟩ => [(1, .int .i64 a1), (2, .int .i64 a2), (3, .pointer (some ⟨(fr1 0).x, 0, none⟩)), (7, .slice o20000_1 l20000_1.length k20000_1), (8, .int .i64 v8_1)]) (M := fun ⟨rs79, v8_1, l20000_1, o20000_1, k20000_1⟩ => [(1, .cells ((fr1 0).x) 24 [.int .i64 a0.Unit, .int .i64 a0.Count, .int .i64 a0.Size]), (20000, o45 o20000_1 k20000_1 l20000_1)]) ?_ ⟨F, a1, ([] : List S_tholeref24_Extent), none, 0⟩ hm
      rintro ⟨rs79, v8_1, l20000_1, o20000_1, k20000_1⟩ hm ih80
      cases rs79 with
      | zero => cases hm
      | succ rs79 =>
        replace hm := (hst83 _ _).symm.trans hm
        try dsimp only at hm
        refine GS.seq ?_
        refine GS.seq ?_
        refine grd_elim hm (fun g55 hm => ?_)
        refine GS.region (env' := fun _ => [(1, .int .i64 a1), (2, .int .i64 a2), (3, .pointer (some ⟨(fr1 0).x, 0, none⟩)), (7, .slice o20000_1 l20000_1.length k20000_1), (8, .int .i64 v8_1), (38, .bool (decide (v8_1 < (a1 + a2))))]) (mem' := fun _ => [(1, .cells ((fr1 0).x) 24 [.int .i64 a0.Unit, .int .i64 a0.Count, .int .i64 a0.Size]), (20000, o45 o20000_1 k20000_1 l20000_1)]) (RunsTo.mk [(3, { sp := some (.int .i64 (a1 + a2)) })] [1, 2, 3, 7, 8, 38] [1, 20000] (fun _ => [((.int .i64 (IntKind.i64.wrap (a1 + a2))) : Value) = .int .i64 (a1 + a2)]) (fun _ => by kernel_rfl) (fun _ => ⟨I64.w g55, trivial⟩)) ?_
        intro _
        refine GS.cond (t := decide (v8_1 < (a1 + a2))) rfl rfl (fun h56 => ?_) (fun h56 => ?_)
        · replace hm := br_t h56 hm
          refine GS.skip ?_
          refine GS.seq ?_
          refine jn_elim hm (fun J73 hJ75 hm => ?_)
          refine GS.cut (ι := List S_tholeref24_Extent × Option Addr × Nat) (I := fun ⟨l20000_2, o20000_2, k20000_2⟩ => J73 l20000_2 = some y) (E := fun ⟨l20000_2, o20000_2, k20000_2⟩ => [(1, .int .i64 a1), (2, .int .i64 a2), (3, .pointer (some ⟨(fr1 0).x, 0, none⟩)), (7, .slice o20000_2 l20000_2.length k20000_2), (8, .int .i64 v8_1)]) (M := fun ⟨l20000_2, o20000_2, k20000_2⟩ => [(1, .cells ((fr1 0).x) 24 [.int .i64 a0.Unit, .int .i64 a0.Count, .int .i64 a0.Size]), (20000, o45 o20000_2 k20000_2 l20000_2)]) ?_ ?_
          rotate_left
          · intro H74
            refine GS.block ?_
            refine GS.seq ?_
            refine bnd_elim hm (fun y58 e59 hm => ?_)
            refine GS.region (env' := fun _ => [(1, .int .i64 a1), (2, .int .i64 a2), (3, .pointer (some ⟨(fr1 0).x, 0, none⟩)), (7, .slice o20000_1 l20000_1.length k20000_1), (8, .int .i64 v8_1), (9, .int .i64 y58.1), (10, .int .i64 y58.2)]) (mem' := fun _ => [(1, .cells ((fr1 0).x) 24 [.int .i64 a0.Unit, .int .i64 a0.Count, .int .i64 a0.Size]), (20000, o45 o20000_1 k20000_1 l20000_1)]) (RunsTo.mk [(0, { act := .load 1 0 0 [] }), (2, { act := .call [] (.tuple #[.int .i64 y58.1, .int .i64 y58.2]) })] [1, 2, 3, 7, 8, 9, 10] [1, 20000] (fun _ => [(fr1 0).x = (fr1 0).x, CallOK Tryd.prog 11 #[.agg #[.int .i64 a0.Unit, .int .i64 a0.Count, .int .i64 a0.Size], .int .i64 v8_1] (.tuple #[.int .i64 y58.1, .int .i64 y58.2]) []]) (fun _ => by kernel_rfl) (fun _ => ⟨rfl, (w_tholeref24_Place F a0 v8_1 e59).ok trivial, trivial⟩)) ?_
            intro _
            refine GS.seq ?_
            refine grd_elim hm (fun g61 hm => ?_)
            refine GS.region (env' := fun _ => [(1, .int .i64 a1), (2, .int .i64 a2), (3, .pointer (some ⟨(fr1 0).x, 0, none⟩)), (7, .slice o20000_1 l20000_1.length k20000_1), (8, .int .i64 v8_1), (9, .int .i64 y58.1), (10, .int .i64 y58.2), (11, .int .i64 (((l20000_1.length : Nat) : Int) - 1))]) (mem' := fun _ => [(1, .cells ((fr1 0).x) 24 [.int .i64 a0.Unit, .int .i64 a0.Count, .int .i64 a0.Size]), (20000, o45 o20000_1 k20000_1 l20000_1)]) (RunsTo.mk [(2, { sp := some (.int .i64 (((l20000_1.length : Nat) : Int) - 1)) })] [1, 2, 3, 7, 8, 9, 10, 11] [1, 20000] (fun _ => [((.int .i64 (IntKind.i64.wrap (((l20000_1.length : Nat) : Int) - 1))) : Value) = .int .i64 (((l20000_1.length : Nat) : Int) - 1)]) (fun _ => by kernel_rfl) (fun _ => ⟨I64.w g61, trivial⟩)) ?_
            intro _
            refine GS.seq ?_
            refine GS.seq ?_
            refine jn_elim hm (fun J64 hJ66 hm => ?_)
            refine GS.cut (ι := Bool) (I := fun (v75_3 : Bool) => J64 v75_3 = some y) (E := fun (v75_3 : Bool) => [(1, .int .i64 a1), (2, .int .i64 a2), (3, .pointer (some ⟨(fr1 0).x, 0, none⟩)), (7, .slice o20000_1 l20000_1.length k20000_1), (8, .int .i64 v8_1), (9, .int .i64 y58.1), (10, .int .i64 y58.2), (11, .int .i64 (((l20000_1.length : Nat) : Int) - 1)), (75, .bool v75_3)]) (M := fun (v75_3 : Bool) => [(1, .cells ((fr1 0).x) 24 [.int .i64 a0.Unit, .int .i64 a0.Count, .int .i64 a0.Size]), (20000, o45 o20000_1 k20000_1 l20000_1)]) ?_ ?_
            rotate_left
            · intro H65
              refine br_elim hm (fun h63 hm => ?_) (fun h63 hm => ?_)
              · skip
                refine grd_elim hm (fun g64 hm => ?_)
                refine br_elim hm (fun h65 hm => ?_) (fun h65 hm => ?_)
                · skip
                  refine grd_elim hm (fun g66 hm => ?_)
                  refine GS.region (env' := fun _ => [(1, .int .i64 a1), (2, .int .i64 a2), (3, .pointer (some ⟨(fr1 0).x, 0, none⟩)), (7, .slice o20000_1 l20000_1.length k20000_1), (8, .int .i64 v8_1), (9, .int .i64 y58.1), (10, .int .i64 y58.2), (11, .int .i64 (((l20000_1.length : Nat) : Int) - 1)), (75, .bool ((((l20000_1.getD (Int.toNat (((l20000_1.length : Nat) : Int) - 1)) dS_tholeref24_Extent).At) + ((l20000_1.getD (Int.toNat (((l20000_1.length : Nat) : Int) - 1)) dS_tholeref24_Extent).N)) == y58.2))]) (mem' := fun _ => [(1, .cells ((fr1 0).x) 24 [.int .i64 a0.Unit, .int .i64 a0.Count, .int .i64 a0.Size]), (20000, o45 o20000_1 k20000_1 l20000_1)]) (RunsTo.mkd [(2, { sp := some (.bool true) }), (5, { act := .idx 20000 (Int.toNat (((l20000_1.length : Nat) : Int) - 1)) }), (7, { act := .load 20000 (Int.toNat (((l20000_1.length : Nat) : Int) - 1)) 0 [.int .i64 ((l20000_1.getD (Int.toNat (((l20000_1.length : Nat) : Int) - 1)) dS_tholeref24_Extent).Object), .int .i64 ((l20000_1.getD (Int.toNat (((l20000_1.length : Nat) : Int) - 1)) dS_tholeref24_Extent).At), .int .i64 ((l20000_1.getD (Int.toNat (((l20000_1.length : Nat) : Int) - 1)) dS_tholeref24_Extent).N)] }), (11, { sp := some (.bool true) }), (14, { act := .idx 20000 (Int.toNat (((l20000_1.length : Nat) : Int) - 1)) }), (16, { act := .load 20000 (Int.toNat (((l20000_1.length : Nat) : Int) - 1)) 1 [.int .i64 ((l20000_1.getD (Int.toNat (((l20000_1.length : Nat) : Int) - 1)) dS_tholeref24_Extent).Object), .int .i64 ((l20000_1.getD (Int.toNat (((l20000_1.length : Nat) : Int) - 1)) dS_tholeref24_Extent).At), .int .i64 ((l20000_1.getD (Int.toNat (((l20000_1.length : Nat) : Int) - 1)) dS_tholeref24_Extent).N)] }), (19, { act := .idx 20000 (Int.toNat (((l20000_1.length : Nat) : Int) - 1)) }), (21, { act := .load 20000 (Int.toNat (((l20000_1.length : Nat) : Int) - 1)) 2 [.int .i64 ((l20000_1.getD (Int.toNat (((l20000_1.length : Nat) : Int) - 1)) dS_tholeref24_Extent).Object), .int .i64 ((l20000_1.getD (Int.toNat (((l20000_1.length : Nat) : Int) - 1)) dS_tholeref24_Extent).At), .int .i64 ((l20000_1.getD (Int.toNat (((l20000_1.length : Nat) : Int) - 1)) dS_tholeref24_Extent).N)] }), (22, { sp := some (.int .i64 (((l20000_1.getD (Int.toNat (((l20000_1.length : Nat) : Int) - 1)) dS_tholeref24_Extent).At) + ((l20000_1.getD (Int.toNat (((l20000_1.length : Nat) : Int) - 1)) dS_tholeref24_Extent).N))) })] [1, 2, 3, 7, 8, 9, 10, 11, 75] [1, 20000] (fun _ => [((.bool (decide ((((l20000_1.length : Nat) : Int) - 1) ≥ 0))) : Value) = .bool true, o20000_1 = o20000_1, l20000_1.length = (List.map S_tholeref24_Extent.row l20000_1).length, ((((l20000_1.length : Nat) : Int) - 1) : Int) = (((Int.toNat (((l20000_1.length : Nat) : Int) - 1)) : Nat) : Int), (Int.toNat (((l20000_1.length : Nat) : Int) - 1)) < l20000_1.length, blk o20000_1 = blk o20000_1, offs o20000_1 + (Int.toNat (((l20000_1.length : Nat) : Int) - 1)) * 3 = offs o20000_1 + ((Int.toNat (((l20000_1.length : Nat) : Int) - 1)) * 3 + 0), (List.map S_tholeref24_Extent.row l20000_1)[(Int.toNat (((l20000_1.length : Nat) : Int) - 1))]? = some [.int .i64 ((l20000_1.getD (Int.toNat (((l20000_1.length : Nat) : Int) - 1)) dS_tholeref24_Extent).Object), .int .i64 ((l20000_1.getD (Int.toNat (((l20000_1.length : Nat) : Int) - 1)) dS_tholeref24_Extent).At), .int .i64 ((l20000_1.getD (Int.toNat (((l20000_1.length : Nat) : Int) - 1)) dS_tholeref24_Extent).N)], ((.bool (((l20000_1.getD (Int.toNat (((l20000_1.length : Nat) : Int) - 1)) dS_tholeref24_Extent).Object) == y58.1)) : Value) = .bool true, o20000_1 = o20000_1, l20000_1.length = (List.map S_tholeref24_Extent.row l20000_1).length, ((((l20000_1.length : Nat) : Int) - 1) : Int) = (((Int.toNat (((l20000_1.length : Nat) : Int) - 1)) : Nat) : Int), (Int.toNat (((l20000_1.length : Nat) : Int) - 1)) < l20000_1.length, blk o20000_1 = blk o20000_1, offs o20000_1 + (Int.toNat (((l20000_1.length : Nat) : Int) - 1)) * 3 + 1 = offs o20000_1 + ((Int.toNat (((l20000_1.length : Nat) : Int) - 1)) * 3 + 1), (List.map S_tholeref24_Extent.row l20000_1)[(Int.toNat (((l20000_1.length : Nat) : Int) - 1))]? = some [.int .i64 ((l20000_1.getD (Int.toNat (((l20000_1.length : Nat) : Int) - 1)) dS_tholeref24_Extent).Object), .int .i64 ((l20000_1.getD (Int.toNat (((l20000_1.length : Nat) : Int) - 1)) dS_tholeref24_Extent).At), .int .i64 ((l20000_1.getD (Int.toNat (((l20000_1.length : Nat) : Int) - 1)) dS_tholeref24_Extent).N)], o20000_1 = o20000_1, l20000_1.length = (List.map S_tholeref24_Extent.row l20000_1).length, ((((l20000_1.length : Nat) : Int) - 1) : Int) = (((Int.toNat (((l20000_1.length : Nat) : Int) - 1)) : Nat) : Int), (Int.toNat (((l20000_1.length : Nat) : Int) - 1)) < l20000_1.length, blk o20000_1 = blk o20000_1, offs o20000_1 + (Int.toNat (((l20000_1.length : Nat) : Int) - 1)) * 3 + 2 = offs o20000_1 + ((Int.toNat (((l20000_1.length : Nat) : Int) - 1)) * 3 + 2), (List.map S_tholeref24_Extent.row l20000_1)[(Int.toNat (((l20000_1.length : Nat) : Int) - 1))]? = some [.int .i64 ((l20000_1.getD (Int.toNat (((l20000_1.length : Nat) : Int) - 1)) dS_tholeref24_Extent).Object), .int .i64 ((l20000_1.getD (Int.toNat (((l20000_1.length : Nat) : Int) - 1)) dS_tholeref24_Extent).At), .int .i64 ((l20000_1.getD (Int.toNat (((l20000_1.length : Nat) : Int) - 1)) dS_tholeref24_Extent).N)], ((.int .i64 (IntKind.i64.wrap (((l20000_1.getD (Int.toNat (((l20000_1.length : Nat) : Int) - 1)) dS_tholeref24_Extent).At) + ((l20000_1.getD (Int.toNat (((l20000_1.length : Nat) : Int) - 1)) dS_tholeref24_Extent).N)))) : Value) = .int .i64 (((l20000_1.getD (Int.toNat (((l20000_1.length : Nat) : Int) - 1)) dS_tholeref24_Extent).At) + ((l20000_1.getD (Int.toNat (((l20000_1.length : Nat) : Int) - 1)) dS_tholeref24_Extent).N))]) (by kernel_rfl) (by kernel_rfl) (fun _ => by kernel_rfl) (fun _ => ⟨bool_eq h63, rfl, mlen S_tholeref24_Extent.row l20000_1, g64.eq, g64.2, rfl, rfl, map_at S_tholeref24_Extent.row dS_tholeref24_Extent g64.2, bool_eq h65, rfl, mlen S_tholeref24_Extent.row l20000_1, g64.eq, g64.2, rfl, (Nat.add_assoc ..), map_at S_tholeref24_Extent.row dS_tholeref24_Extent g64.2, rfl, mlen S_tholeref24_Extent.row l20000_1, g64.eq, g64.2, rfl, (Nat.add_assoc ..), map_at S_tholeref24_Extent.row dS_tholeref24_Extent g64.2, I64.w g66, trivial⟩)) ?_
                  intro _
                  refine GS.rekey (env' := [(1, .int .i64 a1), (2, .int .i64 a2), (3, .pointer (some ⟨(fr1 0).x, 0, none⟩)), (7, .slice o20000_1 l20000_1.length k20000_1), (8, .int .i64 v8_1), (9, .int .i64 y58.1), (10, .int .i64 y58.2), (11, .int .i64 (((l20000_1.length : Nat) : Int) - 1)), (75, .bool ((((l20000_1.getD (Int.toNat (((l20000_1.length : Nat) : Int) - 1)) dS_tholeref24_Extent).At) + ((l20000_1.getD (Int.toNat (((l20000_1.length : Nat) : Int) - 1)) dS_tholeref24_Extent).N)) == y58.2))]) (mem' := [(1, .cells ((fr1 0).x) 24 [.int .i64 a0.Unit, .int .i64 a0.Count, .int .i64 a0.Size]), (20000, o45 o20000_1 k20000_1 l20000_1)]) [1, 2, 3, 7, 8, 9, 10, 11, 75] [(1, 1), (20000, 20000)] (by kernel_rfl) (by kernel_rfl) rfl ?_
                  exact H65 ((((l20000_1.getD (Int.toNat (((l20000_1.length : Nat) : Int) - 1)) dS_tholeref24_Extent).At) + ((l20000_1.getD (Int.toNat (((l20000_1.length : Nat) : Int) - 1)) dS_tholeref24_Extent).N)) == y58.2) hm
                · skip
                  refine GS.region (env' := fun _ => [(1, .int .i64 a1), (2, .int .i64 a2), (3, .pointer (some ⟨(fr1 0).x, 0, none⟩)), (7, .slice o20000_1 l20000_1.length k20000_1), (8, .int .i64 v8_1), (9, .int .i64 y58.1), (10, .int .i64 y58.2), (11, .int .i64 (((l20000_1.length : Nat) : Int) - 1)), (75, .bool false)]) (mem' := fun _ => [(1, .cells ((fr1 0).x) 24 [.int .i64 a0.Unit, .int .i64 a0.Count, .int .i64 a0.Size]), (20000, o45 o20000_1 k20000_1 l20000_1)]) (RunsTo.mkd [(2, { sp := some (.bool true) }), (5, { act := .idx 20000 (Int.toNat (((l20000_1.length : Nat) : Int) - 1)) }), (7, { act := .load 20000 (Int.toNat (((l20000_1.length : Nat) : Int) - 1)) 0 [.int .i64 ((l20000_1.getD (Int.toNat (((l20000_1.length : Nat) : Int) - 1)) dS_tholeref24_Extent).Object), .int .i64 ((l20000_1.getD (Int.toNat (((l20000_1.length : Nat) : Int) - 1)) dS_tholeref24_Extent).At), .int .i64 ((l20000_1.getD (Int.toNat (((l20000_1.length : Nat) : Int) - 1)) dS_tholeref24_Extent).N)] }), (11, { sp := some (.bool false) })] [1, 2, 3, 7, 8, 9, 10, 11, 75] [1, 20000] (fun _ => [((.bool (decide ((((l20000_1.length : Nat) : Int) - 1) ≥ 0))) : Value) = .bool true, o20000_1 = o20000_1, l20000_1.length = (List.map S_tholeref24_Extent.row l20000_1).length, ((((l20000_1.length : Nat) : Int) - 1) : Int) = (((Int.toNat (((l20000_1.length : Nat) : Int) - 1)) : Nat) : Int), (Int.toNat (((l20000_1.length : Nat) : Int) - 1)) < l20000_1.length, blk o20000_1 = blk o20000_1, offs o20000_1 + (Int.toNat (((l20000_1.length : Nat) : Int) - 1)) * 3 = offs o20000_1 + ((Int.toNat (((l20000_1.length : Nat) : Int) - 1)) * 3 + 0), (List.map S_tholeref24_Extent.row l20000_1)[(Int.toNat (((l20000_1.length : Nat) : Int) - 1))]? = some [.int .i64 ((l20000_1.getD (Int.toNat (((l20000_1.length : Nat) : Int) - 1)) dS_tholeref24_Extent).Object), .int .i64 ((l20000_1.getD (Int.toNat (((l20000_1.length : Nat) : Int) - 1)) dS_tholeref24_Extent).At), .int .i64 ((l20000_1.getD (Int.toNat (((l20000_1.length : Nat) : Int) - 1)) dS_tholeref24_Extent).N)], ((.bool (((l20000_1.getD (Int.toNat (((l20000_1.length : Nat) : Int) - 1)) dS_tholeref24_Extent).Object) == y58.1)) : Value) = .bool false]) (by kernel_rfl) (by kernel_rfl) (fun _ => by kernel_rfl) (fun _ => ⟨bool_eq h63, rfl, mlen S_tholeref24_Extent.row l20000_1, g64.eq, g64.2, rfl, rfl, map_at S_tholeref24_Extent.row dS_tholeref24_Extent g64.2, bool_eq h65, trivial⟩)) ?_
                  intro _
                  refine GS.rekey (env' := [(1, .int .i64 a1), (2, .int .i64 a2), (3, .pointer (some ⟨(fr1 0).x, 0, none⟩)), (7, .slice o20000_1 l20000_1.length k20000_1), (8, .int .i64 v8_1), (9, .int .i64 y58.1), (10, .int .i64 y58.2), (11, .int .i64 (((l20000_1.length : Nat) : Int) - 1)), (75, .bool false)]) (mem' := [(1, .cells ((fr1 0).x) 24 [.int .i64 a0.Unit, .int .i64 a0.Count, .int .i64 a0.Size]), (20000, o45 o20000_1 k20000_1 l20000_1)]) [1, 2, 3, 7, 8, 9, 10, 11, 75] [(1, 1), (20000, 20000)] (by kernel_rfl) (by kernel_rfl) rfl ?_
                  exact H65 false hm
              · skip
                refine GS.region (env' := fun _ => [(1, .int .i64 a1), (2, .int .i64 a2), (3, .pointer (some ⟨(fr1 0).x, 0, none⟩)), (7, .slice o20000_1 l20000_1.length k20000_1), (8, .int .i64 v8_1), (9, .int .i64 y58.1), (10, .int .i64 y58.2), (11, .int .i64 (((l20000_1.length : Nat) : Int) - 1)), (75, .bool false)]) (mem' := fun _ => [(1, .cells ((fr1 0).x) 24 [.int .i64 a0.Unit, .int .i64 a0.Count, .int .i64 a0.Size]), (20000, o45 o20000_1 k20000_1 l20000_1)]) (RunsTo.mkd [(2, { sp := some (.bool false) })] [1, 2, 3, 7, 8, 9, 10, 11, 75] [1, 20000] (fun _ => [((.bool (decide ((((l20000_1.length : Nat) : Int) - 1) ≥ 0))) : Value) = .bool false]) (by kernel_rfl) (by kernel_rfl) (fun _ => by kernel_rfl) (fun _ => ⟨bool_eq h63, trivial⟩)) ?_
                intro _
                refine GS.rekey (env' := [(1, .int .i64 a1), (2, .int .i64 a2), (3, .pointer (some ⟨(fr1 0).x, 0, none⟩)), (7, .slice o20000_1 l20000_1.length k20000_1), (8, .int .i64 v8_1), (9, .int .i64 y58.1), (10, .int .i64 y58.2), (11, .int .i64 (((l20000_1.length : Nat) : Int) - 1)), (75, .bool false)]) (mem' := [(1, .cells ((fr1 0).x) 24 [.int .i64 a0.Unit, .int .i64 a0.Count, .int .i64 a0.Size]), (20000, o45 o20000_1 k20000_1 l20000_1)]) [1, 2, 3, 7, 8, 9, 10, 11, 75] [(1, 1), (20000, 20000)] (by kernel_rfl) (by kernel_rfl) rfl ?_
                exact H65 false hm
            · rintro v75_3 hm
              replace hm := (hJ66 _).symm.trans hm
              try dsimp only at hm
              refine GS.cond (t := v75_3) rfl rfl (fun h67 => ?_) (fun h67 => ?_)
              · replace hm := br_t h67 hm
                refine GS.seq ?_
                refine grd_elim hm (fun g69 hm => ?_)
                refine grd_elim hm (fun g70 hm => ?_)
                refine GS.region (env' := fun _ => [(1, .int .i64 a1), (2, .int .i64 a2), (3, .pointer (some ⟨(fr1 0).x, 0, none⟩)), (7, .slice o20000_1 l20000_1.length k20000_1), (8, .int .i64 v8_1)]) (mem' := fun _ => [(1, .cells ((fr1 0).x) 24 [.int .i64 a0.Unit, .int .i64 a0.Count, .int .i64 a0.Size]), (20000, .osl o20000_1 k20000_1 45 3 ((List.map S_tholeref24_Extent.row l20000_1).set (Int.toNat (((l20000_1.length : Nat) : Int) - 1)) [.int .i64 ((l20000_1.getD (Int.toNat (((l20000_1.length : Nat) : Int) - 1)) dS_tholeref24_Extent).Object), .int .i64 ((l20000_1.getD (Int.toNat (((l20000_1.length : Nat) : Int) - 1)) dS_tholeref24_Extent).At), .int .i64 (((l20000_1.getD (Int.toNat (((l20000_1.length : Nat) : Int) - 1)) dS_tholeref24_Extent).N) + 1)]))]) (RunsTo.mk [(2, { act := .idx 20000 (Int.toNat (((l20000_1.length : Nat) : Int) - 1)) }), (4, { act := .load 20000 (Int.toNat (((l20000_1.length : Nat) : Int) - 1)) 2 [.int .i64 ((l20000_1.getD (Int.toNat (((l20000_1.length : Nat) : Int) - 1)) dS_tholeref24_Extent).Object), .int .i64 ((l20000_1.getD (Int.toNat (((l20000_1.length : Nat) : Int) - 1)) dS_tholeref24_Extent).At), .int .i64 ((l20000_1.getD (Int.toNat (((l20000_1.length : Nat) : Int) - 1)) dS_tholeref24_Extent).N)] }), (5, { sp := some (.int .i64 (((l20000_1.getD (Int.toNat (((l20000_1.length : Nat) : Int) - 1)) dS_tholeref24_Extent).N) + 1)) }), (6, { act := .idx 20000 (Int.toNat (((l20000_1.length : Nat) : Int) - 1)) }), (8, { act := .store (Int.toNat (((l20000_1.length : Nat) : Int) - 1)) 2 [.int .i64 ((l20000_1.getD (Int.toNat (((l20000_1.length : Nat) : Int) - 1)) dS_tholeref24_Extent).Object), .int .i64 ((l20000_1.getD (Int.toNat (((l20000_1.length : Nat) : Int) - 1)) dS_tholeref24_Extent).At), .int .i64 ((l20000_1.getD (Int.toNat (((l20000_1.length : Nat) : Int) - 1)) dS_tholeref24_Extent).N)], key := some 20000 })] [1, 2, 3, 7, 8] [1, 20000] (fun _ => [o20000_1 = o20000_1, l20000_1.length = (List.map S_tholeref24_Extent.row l20000_1).length, ((((l20000_1.length : Nat) : Int) - 1) : Int) = (((Int.toNat (((l20000_1.length : Nat) : Int) - 1)) : Nat) : Int), (Int.toNat (((l20000_1.length : Nat) : Int) - 1)) < l20000_1.length, blk o20000_1 = blk o20000_1, offs o20000_1 + (Int.toNat (((l20000_1.length : Nat) : Int) - 1)) * 3 + 2 = offs o20000_1 + ((Int.toNat (((l20000_1.length : Nat) : Int) - 1)) * 3 + 2), (List.map S_tholeref24_Extent.row l20000_1)[(Int.toNat (((l20000_1.length : Nat) : Int) - 1))]? = some [.int .i64 ((l20000_1.getD (Int.toNat (((l20000_1.length : Nat) : Int) - 1)) dS_tholeref24_Extent).Object), .int .i64 ((l20000_1.getD (Int.toNat (((l20000_1.length : Nat) : Int) - 1)) dS_tholeref24_Extent).At), .int .i64 ((l20000_1.getD (Int.toNat (((l20000_1.length : Nat) : Int) - 1)) dS_tholeref24_Extent).N)], ((.int .i64 (IntKind.i64.wrap (((l20000_1.getD (Int.toNat (((l20000_1.length : Nat) : Int) - 1)) dS_tholeref24_Extent).N) + 1))) : Value) = .int .i64 (((l20000_1.getD (Int.toNat (((l20000_1.length : Nat) : Int) - 1)) dS_tholeref24_Extent).N) + 1), o20000_1 = o20000_1, l20000_1.length = (List.map S_tholeref24_Extent.row l20000_1).length, ((((l20000_1.length : Nat) : Int) - 1) : Int) = (((Int.toNat (((l20000_1.length : Nat) : Int) - 1)) : Nat) : Int), (Int.toNat (((l20000_1.length : Nat) : Int) - 1)) < l20000_1.length, blk o20000_1 = blk o20000_1, offs o20000_1 + (Int.toNat (((l20000_1.length : Nat) : Int) - 1)) * 3 + 2 = offs o20000_1 + ((Int.toNat (((l20000_1.length : Nat) : Int) - 1)) * 3 + 2), (List.map S_tholeref24_Extent.row l20000_1)[(Int.toNat (((l20000_1.length : Nat) : Int) - 1))]? = some [.int .i64 ((l20000_1.getD (Int.toNat (((l20000_1.length : Nat) : Int) - 1)) dS_tholeref24_Extent).Object), .int .i64 ((l20000_1.getD (Int.toNat (((l20000_1.length : Nat) : Int) - 1)) dS_tholeref24_Extent).At), .int .i64 ((l20000_1.getD (Int.toNat (((l20000_1.length : Nat) : Int) - 1)) dS_tholeref24_Extent).N)], ((.int .i64 (((l20000_1.getD (Int.toNat (((l20000_1.length : Nat) : Int) - 1)) dS_tholeref24_Extent).N) + 1)) : Value).cells.toList.all Value.oneCell' = true]) (fun _ => by kernel_rfl) (fun _ => ⟨rfl, mlen S_tholeref24_Extent.row l20000_1, g69.eq, g69.2, rfl, (Nat.add_assoc ..), map_at S_tholeref24_Extent.row dS_tholeref24_Extent g69.2, I64.w g70, rfl, mlen S_tholeref24_Extent.row l20000_1, g69.eq, g69.2, rfl, (Nat.add_assoc ..), map_at S_tholeref24_Extent.row dS_tholeref24_Extent g69.2, rfl, trivial⟩)) ?_
                intro _
                refine GS.conv (mem' := [(1, .cells ((fr1 0).x) 24 [.int .i64 a0.Unit, .int .i64 a0.Count, .int .i64 a0.Size]), (20000, o45 o20000_1 k20000_1 (l20000_1.set (Int.toNat (((l20000_1.length : Nat) : Int) - 1)) (S_tholeref24_Extent.mk ((l20000_1.getD (Int.toNat (((l20000_1.length : Nat) : Int) - 1)) dS_tholeref24_Extent).Object) ((l20000_1.getD (Int.toNat (((l20000_1.length : Nat) : Int) - 1)) dS_tholeref24_Extent).At) (((l20000_1.getD (Int.toNat (((l20000_1.length : Nat) : Int) - 1)) dS_tholeref24_Extent).N) + 1))))]) rfl (congrArg (fun rr : List (List Value) => ([(1, .cells ((fr1 0).x) 24 [.int .i64 a0.Unit, .int .i64 a0.Count, .int .i64 a0.Size]), (20000, .osl o20000_1 k20000_1 45 3 rr)] : List (Nat × Ent))) (show (List.map S_tholeref24_Extent.row l20000_1).set (Int.toNat (((l20000_1.length : Nat) : Int) - 1)) [.int .i64 ((l20000_1.getD (Int.toNat (((l20000_1.length : Nat) : Int) - 1)) dS_tholeref24_Extent).Object), .int .i64 ((l20000_1.getD (Int.toNat (((l20000_1.length : Nat) : Int) - 1)) dS_tholeref24_Extent).At), .int .i64 (((l20000_1.getD (Int.toNat (((l20000_1.length : Nat) : Int) - 1)) dS_tholeref24_Extent).N) + 1)] = List.map S_tholeref24_Extent.row (l20000_1.set (Int.toNat (((l20000_1.length : Nat) : Int) - 1)) (S_tholeref24_Extent.mk ((l20000_1.getD (Int.toNat (((l20000_1.length : Nat) : Int) - 1)) dS_tholeref24_Extent).Object) ((l20000_1.getD (Int.toNat (((l20000_1.length : Nat) : Int) - 1)) dS_tholeref24_Extent).At) (((l20000_1.getD (Int.toNat (((l20000_1.length : Nat) : Int) - 1)) dS_tholeref24_Extent).N) + 1))) from mset S_tholeref24_Extent.row l20000_1 (Int.toNat (((l20000_1.length : Nat) : Int) - 1)) (S_tholeref24_Extent.mk ((l20000_1.getD (Int.toNat (((l20000_1.length : Nat) : Int) - 1)) dS_tholeref24_Extent).Object) ((l20000_1.getD (Int.toNat (((l20000_1.length : Nat) : Int) - 1)) dS_tholeref24_Extent).At) (((l20000_1.getD (Int.toNat (((l20000_1.length : Nat) : Int) - 1)) dS_tholeref24_Extent).N) + 1)))) ?_
                refine GS.exit rfl ?_
                refine GS.conv (env' := [(1, .int .i64 a1), (2, .int .i64 a2), (3, .pointer (some ⟨(fr1 0).x, 0, none⟩)), (7, .slice o20000_1 ((l20000_1.set (Int.toNat (((l20000_1.length : Nat) : Int) - 1)) (S_tholeref24_Extent.mk ((l20000_1.getD (Int.toNat (((l20000_1.length : Nat) : Int) - 1)) dS_tholeref24_Extent).Object) ((l20000_1.getD (Int.toNat (((l20000_1.length : Nat) : Int) - 1)) dS_tholeref24_Extent).At) (((l20000_1.getD (Int.toNat (((l20000_1.length : Nat) : Int) - 1)) dS_tholeref24_Extent).N) + 1))).length) k20000_1), (8, .int .i64 v8_1)]) (congrArg (fun vhole : Value => [(1, .int .i64 a1), (2, .int .i64 a2), (3, .pointer (some ⟨(fr1 0).x, 0, none⟩)), (7, vhole), (8, .int .i64 v8_1)]) (show ((.slice o20000_1 l20000_1.length k20000_1 : Value) = .slice o20000_1 ((l20000_1.set (Int.toNat (((l20000_1.length : Nat) : Int) - 1)) (S_tholeref24_Extent.mk ((l20000_1.getD (Int.toNat (((l20000_1.length : Nat) : Int) - 1)) dS_tholeref24_Extent).Object) ((l20000_1.getD (Int.toNat (((l20000_1.length : Nat) : Int) - 1)) dS_tholeref24_Extent).At) (((l20000_1.getD (Int.toNat (((l20000_1.length : Nat) : Int) - 1)) dS_tholeref24_Extent).N) + 1))).length) k20000_1) from (by simp []))) rfl ?_
                refine GS.rekey (env' := [(1, .int .i64 a1), (2, .int .i64 a2), (3, .pointer (some ⟨(fr1 0).x, 0, none⟩)), (7, .slice o20000_1 ((l20000_1.set (Int.toNat (((l20000_1.length : Nat) : Int) - 1)) (S_tholeref24_Extent.mk ((l20000_1.getD (Int.toNat (((l20000_1.length : Nat) : Int) - 1)) dS_tholeref24_Extent).Object) ((l20000_1.getD (Int.toNat (((l20000_1.length : Nat) : Int) - 1)) dS_tholeref24_Extent).At) (((l20000_1.getD (Int.toNat (((l20000_1.length : Nat) : Int) - 1)) dS_tholeref24_Extent).N) + 1))).length) k20000_1), (8, .int .i64 v8_1)]) (mem' := [(1, .cells ((fr1 0).x) 24 [.int .i64 a0.Unit, .int .i64 a0.Count, .int .i64 a0.Size]), (20000, o45 o20000_1 k20000_1 (l20000_1.set (Int.toNat (((l20000_1.length : Nat) : Int) - 1)) (S_tholeref24_Extent.mk ((l20000_1.getD (Int.toNat (((l20000_1.length : Nat) : Int) - 1)) dS_tholeref24_Extent).Object) ((l20000_1.getD (Int.toNat (((l20000_1.length : Nat) : Int) - 1)) dS_tholeref24_Extent).At) (((l20000_1.getD (Int.toNat (((l20000_1.length : Nat) : Int) - 1)) dS_tholeref24_Extent).N) + 1))))]) [1, 2, 3, 7, 8] [(1, 1), (20000, 20000)] (by kernel_rfl) (by kernel_rfl) rfl ?_
                exact H74 ⟨(l20000_1.set (Int.toNat (((l20000_1.length : Nat) : Int) - 1)) (S_tholeref24_Extent.mk ((l20000_1.getD (Int.toNat (((l20000_1.length : Nat) : Int) - 1)) dS_tholeref24_Extent).Object) ((l20000_1.getD (Int.toNat (((l20000_1.length : Nat) : Int) - 1)) dS_tholeref24_Extent).At) (((l20000_1.getD (Int.toNat (((l20000_1.length : Nat) : Int) - 1)) dS_tholeref24_Extent).N) + 1))), o20000_1, k20000_1⟩ hm
              · replace hm := br_f h67 hm
                refine GS.skip ?_
                refine grd_elim hm (fun g72 hm => ?_)
                refine GS.region (env' := fun fr71 => [(1, .int .i64 a1), (2, .int .i64 a2), (3, .pointer (some ⟨(fr1 0).x, 0, none⟩)), (7, .slice ((fr71 5).ob) ((l20000_1 ++ [(S_tholeref24_Extent.mk y58.1 y58.2 1)]).length) ((fr71 5).cap)), (8, .int .i64 v8_1)]) (mem' := fun fr71 => [(1, .cells ((fr1 0).x) 24 [.int .i64 a0.Unit, .int .i64 a0.Count, .int .i64 a0.Size]), (20000, .osl ((fr71 5).ob) ((fr71 5).cap) 45 3 ((List.map S_tholeref24_Extent.row l20000_1) ++ ([[.int .i64 y58.1, .int .i64 y58.2, .int .i64 1]] : List (List Value))))]) (RunsTo.mk [(4, { act := .new (.row 1 3), key := some 20001, spf := some (fun f => .slice (some (Addr.mk f.x 0 none)) ([(S_tholeref24_Extent.mk y58.1 y58.2 1)].length) 1) }), (5, { act := .app (some 20001), key := some 20000, spf := some (fun f => .slice (f.ob) ((l20000_1 ++ [(S_tholeref24_Extent.mk y58.1 y58.2 1)]).length) (f.cap)) })] [1, 2, 3, 7, 8] [1, 20000] (fun fr71 => [((.slice (some (Addr.mk (fr71 4).x 0 none)) 1 1) : Value) = .slice (some (Addr.mk (fr71 4).x 0 none)) ([(S_tholeref24_Extent.mk y58.1 y58.2 1)].length) 1, (some (Addr.mk (fr71 4).x 0 none)) = (some (Addr.mk (fr71 4).x 0 none)), [(S_tholeref24_Extent.mk y58.1 y58.2 1)].length = ([[.int .i64 y58.1, .int .i64 y58.2, .int .i64 1]] : List (List Value)).length, o20000_1 = o20000_1, k20000_1 = k20000_1, l20000_1.length = (List.map S_tholeref24_Extent.row l20000_1).length, ((List.map S_tholeref24_Extent.row l20000_1).length + ([[.int .i64 y58.1, .int .i64 y58.2, .int .i64 1]] : List (List Value)).length) * (24 + 1) ≤ 70368744177664, ([[.int .i64 y58.1, .int .i64 y58.2, .int .i64 1]] : List (List Value)).flatten.all Value.oneCell' = true, ((.slice ((fr71 5).ob) (l20000_1.length + ([[.int .i64 y58.1, .int .i64 y58.2, .int .i64 1]] : List (List Value)).length) ((fr71 5).cap)) : Value) = .slice ((fr71 5).ob) ((l20000_1 ++ [(S_tholeref24_Extent.mk y58.1 y58.2 1)]).length) ((fr71 5).cap)]) (fun fr71 => by kernel_rfl) (fun fr71 => ⟨rfl, rfl, (by rw [show ([[.int .i64 y58.1, .int .i64 y58.2, .int .i64 1]] : List (List Value)) = List.map S_tholeref24_Extent.row [(S_tholeref24_Extent.mk y58.1 y58.2 1)] from rfl]; exact mlen S_tholeref24_Extent.row [(S_tholeref24_Extent.mk y58.1 y58.2 1)]), rfl, rfl, mlen S_tholeref24_Extent.row l20000_1, appb g72 (mlen S_tholeref24_Extent.row l20000_1).symm (by rw [show ([[.int .i64 y58.1, .int .i64 y58.2, .int .i64 1]] : List (List Value)) = List.map S_tholeref24_Extent.row [(S_tholeref24_Extent.mk y58.1 y58.2 1)] from rfl]; exact (mlen S_tholeref24_Extent.row [(S_tholeref24_Extent.mk y58.1 y58.2 1)]).symm), (by rw [show ([[.int .i64 y58.1, .int .i64 y58.2, .int .i64 1]] : List (List Value)) = List.map S_tholeref24_Extent.row [(S_tholeref24_Extent.mk y58.1 y58.2 1)] from (show ([[.int .i64 y58.1, .int .i64 y58.2, .int .i64 1]] : List (List Value)) = List.map S_tholeref24_Extent.row [(S_tholeref24_Extent.mk y58.1 y58.2 1)] from rfl)]; exact all_one S_tholeref24_Extent.row _ (fun _ => rfl)), slen (by simp), trivial⟩)) ?_
                intro fr71
                refine GS.conv (mem' := [(1, .cells ((fr1 0).x) 24 [.int .i64 a0.Unit, .int .i64 a0.Count, .int .i64 a0.Size]), (20000, o45 ((fr71 5).ob) ((fr71 5).cap) (l20000_1 ++ [(S_tholeref24_Extent.mk y58.1 y58.2 1)]))]) rfl (congrArg (fun rr : List (List Value) => ([(1, .cells ((fr1 0).x) 24 [.int .i64 a0.Unit, .int .i64 a0.Count, .int .i64 a0.Size]), (20000, .osl ((fr71 5).ob) ((fr71 5).cap) 45 3 rr)] : List (Nat × Ent))) (show (List.map S_tholeref24_Extent.row l20000_1) ++ ([[.int .i64 y58.1, .int .i64 y58.2, .int .i64 1]] : List (List Value)) = List.map S_tholeref24_Extent.row (l20000_1 ++ [(S_tholeref24_Extent.mk y58.1 y58.2 1)]) from (by rw [show List.map S_tholeref24_Extent.row l20000_1 = List.map S_tholeref24_Extent.row l20000_1 from rfl, show ([[.int .i64 y58.1, .int .i64 y58.2, .int .i64 1]] : List (List Value)) = List.map S_tholeref24_Extent.row [(S_tholeref24_Extent.mk y58.1 y58.2 1)] from (show ([[.int .i64 y58.1, .int .i64 y58.2, .int .i64 1]] : List (List Value)) = List.map S_tholeref24_Extent.row [(S_tholeref24_Extent.mk y58.1 y58.2 1)] from rfl)]; exact mapp S_tholeref24_Extent.row _ _))) ?_
                refine GS.inBlock ?_
                refine GS.rekey (env' := [(1, .int .i64 a1), (2, .int .i64 a2), (3, .pointer (some ⟨(fr1 0).x, 0, none⟩)), (7, .slice ((fr71 5).ob) ((l20000_1 ++ [(S_tholeref24_Extent.mk y58.1 y58.2 1)]).length) ((fr71 5).cap)), (8, .int .i64 v8_1)]) (mem' := [(1, .cells ((fr1 0).x) 24 [.int .i64 a0.Unit, .int .i64 a0.Count, .int .i64 a0.Size]), (20000, o45 ((fr71 5).ob) ((fr71 5).cap) (l20000_1 ++ [(S_tholeref24_Extent.mk y58.1 y58.2 1)]))]) [1, 2, 3, 7, 8] [(1, 1), (20000, 20000)] (by kernel_rfl) (by kernel_rfl) rfl ?_
                exact H74 ⟨(l20000_1 ++ [(S_tholeref24_Extent.mk y58.1 y58.2 1)]), (fr71 5).ob, (fr71 5).cap⟩ hm
          · rintro ⟨l20000_2, o20000_2, k20000_2⟩ hm
            replace hm := (hJ75 _).symm.trans hm
            try dsimp only at hm
            refine grd_elim hm (fun g77 hm => ?_)
            refine GS.region (env' := fun _ => [(1, .int .i64 a1), (2, .int .i64 a2), (3, .pointer (some ⟨(fr1 0).x, 0, none⟩)), (7, .slice o20000_2 l20000_2.length k20000_2), (8, .int .i64 (v8_1 + 1))]) (mem' := fun _ => [(1, .cells ((fr1 0).x) 24 [.int .i64 a0.Unit, .int .i64 a0.Count, .int .i64 a0.Size]), (20000, o45 o20000_2 k20000_2 l20000_2)]) (RunsTo.mk [(1, { sp := some (.int .i64 (v8_1 + 1)) })] [1, 2, 3, 7, 8] [1, 20000] (fun _ => [((.int .i64 (IntKind.i64.wrap (v8_1 + 1))) : Value) = .int .i64 (v8_1 + 1)]) (fun _ => by kernel_rfl) (fun _ => ⟨I64.w g77, trivial⟩)) ?_
            intro _
            refine GS.inLoop ?_
            refine GS.rekey (env' := [(1, .int .i64 a1), (2, .int .i64 a2), (3, .pointer (some ⟨(fr1 0).x, 0, none⟩)), (7, .slice o20000_2 l20000_2.length k20000_2), (8, .int .i64 (v8_1 + 1))]) (mem' := [(1, .cells ((fr1 0).x) 24 [.int .i64 a0.Unit, .int .i64 a0.Count, .int .i64 a0.Size]), (20000, o45 o20000_2 k20000_2 l20000_2)]) [1, 2, 3, 7, 8] [(1, 1), (20000, 20000)] (by kernel_rfl) (by kernel_rfl) rfl ?_
            exact ih80 ⟨rs79, (v8_1 + 1), l20000_2, o20000_2, k20000_2⟩ hm (Nat.lt_succ_self _)
        · replace hm := br_f h56 hm
          refine GS.exit rfl ?_
          refine GS.seq ?_
          refine GS.region (env' := fun _ => [(6, .slice o20000_1 l20000_1.length k20000_1)]) (mem' := fun _ => [(20000, o45 o20000_1 k20000_1 l20000_1)]) (RunsTo.mk [] [6] [20000] (fun _ => []) (fun _ => by kernel_rfl) (fun _ => trivial)) ?_
          intro _
          have hy := Option.some.inj hm
          subst hy
          refine GS.ret (fn := Tryd.f22) [0] [.slice o20000_1 l20000_1.length k20000_1] [] rfl Tryd.func22 (by kernel_rfl) trivial (fun w' hs => ?_)
          exact ⟨⟨o20000_1, k20000_1⟩, rfl, hs.turnedG (ks := [20000]) rfl rfl⟩

theorem w_stripe_Objects (F : Nat) (a0 : S_stripe_Layout) (a1 : Int) {y : Int} (hm : m_stripe_Objects F a0 a1 = some y) : CallG Tryd.prog 23 #[.agg #[.int .i64 a0.Unit, .int .i64 a0.Count, .int .i64 a0.Size], .int .i64 a1] (X := Unit) (fun (_ : Unit) => .int .i64 y) [] [] (fun (_ : Unit) => []) := by
  intro w hg
  rw [m_stripe_Objects] at hm
  refine GS.start (S := mayT [] []) (mem := []) Tryd.func23 rfl Tryd.ntmps23 (Nat.le_of_ble_eq_true rfl) (hg.start rfl) ?_
  refine GS.conv (env' := [(0, .agg #[.int .i64 a0.Unit, .int .i64 a0.Count, .int .i64 a0.Size]), (1, .int .i64 a1)]) rfl rfl ?_
  refine GS.seq ?_
  refine GS.region (env' := fun fr1 => [(1, .int .i64 a1), (2, .pointer (some ⟨(fr1 0).x, 0, none⟩))]) (mem' := fun fr1 => [(1, .cells ((fr1 0).x) 23 [.int .i64 a0.Unit, .int .i64 a0.Count, .int .i64 a0.Size])]) (RunsTo.mk [(0, { act := .new .var, key := some 1 })] [1, 2] [1] (fun fr1 => []) (fun fr1 => by kernel_rfl) (fun fr1 => trivial)) ?_
  intro fr1
  refine GS.seq ?_
  refine bnd_elim hm (fun y3 e4 hm => ?_)
  refine GS.open_ ?_
  refine GR.run (i := 0) 2 (env' := fun _ => [(5, .agg #[.int .i64 a0.Unit, .int .i64 a0.Count, .int .i64 a0.Size]), (6, .int .i64 a1)]) (mem' := fun _ => []) (Nat.le_of_ble_eq_true (by kernel_rfl)) (RunsTo.mk [(0, { act := .load 1 0 0 [] })] [5, 6] [] (fun _ => [(fr1 0).x = (fr1 0).x]) (fun _ => by kernel_rfl) (fun _ => ⟨rfl, trivial⟩)) ?_
  intro _
  refine GR.callG (X := Option Addr × Nat) (i := 2) (g := 26) (args := #[.agg #[.int .i64 a0.Unit, .int .i64 a0.Count, .int .i64 a0.Size], .int .i64 a1]) (v := fun ⟨x5, x6⟩ => .slice x5 y3.length x6) (own := []) (ro := []) (es' := fun ⟨x5, x6⟩ => [o3 x5 x6 y3]) (mem' := fun ⟨x5, x6⟩ => [(2, o3 x5 x6 y3)]) (env' := fun ⟨x5, x6⟩ => [(7, .slice x5 y3.length x6)]) [] [2] [7] [2] false (by kernel_rfl) (by kernel_rfl) (by kernel_rfl) (by kernel_rfl) (by kernel_rfl) (fun _ => rfl) (fun _ _ => rfl) trivial (by rintro ⟨x5, x6⟩; kernel_rfl) (by rintro ⟨x5, x6⟩; kernel_rfl) (w_stripe_Sizes F a0 a1 e4) ?_
  rintro ⟨x5, x6⟩
  refine GR.run (i := 3) 2 (env' := fun _ => [(4, .int .i64 ((y3.length : Nat) : Int))]) (mem' := fun _ => []) (Nat.le_of_ble_eq_true (by kernel_rfl)) (RunsTo.mk [] [4] [] (fun _ => []) (fun _ => by kernel_rfl) (fun _ => trivial)) ?_
  intro _
  refine GR.done (Nat.le_of_ble_eq_true (by kernel_rfl)) ?_
  have hy := Option.some.inj hm
  subst hy
  refine GS.ret (fn := Tryd.f23) [0] [.int .i64 ((y3.length : Nat) : Int)] [] rfl Tryd.func23 (by kernel_rfl) trivial (fun w' hs => ?_)
  exact ⟨(), rfl, hs.turnedG (ks := []) rfl rfl⟩

end Go.Proofs.YtfdojammchbboaaDoor
