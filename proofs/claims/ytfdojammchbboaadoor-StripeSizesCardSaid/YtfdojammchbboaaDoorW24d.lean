/-
  CHAPTER 24: the functions do what their models say (4).
-/
import Derived.Test.YtfdojammchbboaaDoorW24c
set_option linter.unusedVariables false
set_option linter.unusedSimpArgs false
set_option maxRecDepth 100000
namespace Go.Proofs.YtfdojammchbboaaDoor
open Go Go.RowKit Sx

theorem w_tholeref24_Sizes (F : Nat) (a0 : S_tholeref24_Layout) (a1 : Int) {y : List Int} (hm : m_tholeref24_Sizes F a0 a1 = some y) : CallG Tryd.prog 27 #[.agg #[.int .i64 a0.Unit, .int .i64 a0.Count, .int .i64 a0.Size], .int .i64 a1] (X := Option Addr × Nat) (fun ⟨x0, x1⟩ => .slice x0 y.length x1) [] [] (fun ⟨x0, x1⟩ => [o3 x0 x1 y]) := by
  intro w hg
  rw [m_tholeref24_Sizes] at hm
  refine GS.start (S := mayT [] []) (mem := []) Tryd.func27 rfl Tryd.ntmps27 (Nat.le_of_ble_eq_true rfl) (hg.start rfl) ?_
  refine GS.conv (env' := [(0, .agg #[.int .i64 a0.Unit, .int .i64 a0.Count, .int .i64 a0.Size]), (1, .int .i64 a1)]) rfl rfl ?_
  refine GS.seq ?_
  refine GS.region (env' := fun fr1 => [(1, .int .i64 a1), (2, .pointer (some ⟨(fr1 0).x, 0, none⟩))]) (mem' := fun fr1 => [(1, .cells ((fr1 0).x) 24 [.int .i64 a0.Unit, .int .i64 a0.Count, .int .i64 a0.Size])]) (RunsTo.mk [(0, { act := .new .var, key := some 1 })] [1, 2] [1] (fun fr1 => []) (fun fr1 => by kernel_rfl) (fun fr1 => trivial)) ?_
  intro fr1
  refine GS.seq ?_
  refine GS.region (env' := fun _ => [(1, .int .i64 a1), (2, .pointer (some ⟨(fr1 0).x, 0, none⟩)), (5, .slice none 0 0)]) (mem' := fun _ => [(1, .cells ((fr1 0).x) 24 [.int .i64 a0.Unit, .int .i64 a0.Count, .int .i64 a0.Size])]) (RunsTo.mk [] [1, 2, 5] [1] (fun _ => []) (fun _ => by kernel_rfl) (fun _ => trivial)) ?_
  intro _
  refine GS.seq ?_
  refine GS.seq ?_
  refine bnd_elim hm (fun y4 e5 hm => ?_)
  refine GS.open_ ?_
  refine GR.run (i := 0) 2 (env' := fun _ => [(5, .slice none 0 0), (8, .agg #[.int .i64 a0.Unit, .int .i64 a0.Count, .int .i64 a0.Size]), (9, .int .i64 a1)]) (mem' := fun _ => []) (Nat.le_of_ble_eq_true (by kernel_rfl)) (RunsTo.mk [(0, { act := .load 1 0 0 [] })] [5, 8, 9] [] (fun _ => [(fr1 0).x = (fr1 0).x]) (fun _ => by kernel_rfl) (fun _ => ⟨rfl, trivial⟩)) ?_
  intro _
  refine GR.callG (X := Option Addr × Nat) (i := 2) (g := 22) (args := #[.agg #[.int .i64 a0.Unit, .int .i64 a0.Count, .int .i64 a0.Size], .int .i64 0, .int .i64 a1]) (v := fun ⟨x6, x7⟩ => .slice x6 y4.length x7) (own := []) (ro := []) (es' := fun ⟨x6, x7⟩ => [o45 x6 x7 y4]) (mem' := fun ⟨x6, x7⟩ => [(2, o45 x6 x7 y4)]) (env' := fun ⟨x6, x7⟩ => [(5, .slice none 0 0), (10, .slice x6 y4.length x7)]) [] [2] [5, 10] [2] false (by kernel_rfl) (by kernel_rfl) (by kernel_rfl) (by kernel_rfl) (by kernel_rfl) (fun _ => rfl) (fun _ _ => rfl) trivial (by rintro ⟨x6, x7⟩; kernel_rfl) (by rintro ⟨x6, x7⟩; kernel_rfl) (w_tholeref24_Extents F a0 0 a1 e5) ?_
  rintro ⟨x6, x7⟩
  refine GR.run (i := 3) 2 (env' := fun _ => [(5, .slice none 0 0), (10, .slice x6 y4.length x7), (11, .int .i64 ((y4.length : Nat) : Int)), (12, .int .i64 0)]) (mem' := fun _ => [(2, o45 x6 x7 y4)]) (Nat.le_of_ble_eq_true (by kernel_rfl)) (RunsTo.mk [] [5, 10, 11, 12] [2] (fun _ => []) (fun _ => by kernel_rfl) (fun _ => trivial)) ?_
  intro _
  refine GR.done (Nat.le_of_ble_eq_true (by kernel_rfl)) ?_
  refine GS.block ?_
  refine GS.loop ?_
  refine GS.know (p := y4.length ≤ x7) (fun w hw => by first | (have h := (hw.ok 2 _ rfl).1.1; rw [List.length_map] at h; exact h) | simpa using (hw.ok 2 _ rfl).1.1) (fun k9 => ?_)
  refine grd_elim hm (fun g87 hm => ?_)
  refine GS.setMem (mem' := [(2, o45 x6 x7 y4), (20001, o3 none 0 ([] : List Int))]) (fun w hw => Sat.addNil hw rfl) ?_
  refine GS.rekey (env' := [(5, .slice none 0 0), (10, .slice x6 y4.length x7), (11, .int .i64 ((y4.length : Nat) : Int)), (12, .int .i64 0)]) (mem' := [(2, o45 x6 x7 y4), (20000, o3 none 0 ([] : List Int))]) [5, 10, 11, 12] [(2, 2), (20000, 20001)] (by kernel_rfl) (by kernel_rfl) rfl ?_
  refine loopL_elim hm (fun st132 fn133 hst134 hfn135 hm => ?_)
  refine GS.loopInv (ι := List S_tholeref24_Extent × Nat × List Int × Option Addr × Nat) (I := fun ⟨rs130, v12_1, l20000_1, o20000_1, k20000_1⟩ => y4.drop v12_1 = rs130 ∧ loopL st132 fn133 rs130 v12_1 l20000_1 = some y) (μ := fun ⟨rs130, v12_1, l20000_1, o20000_1, k20000_1⟩ => rs130.length) (E := fun ⟨rs130, v12_1, l20000_1, o20000_1, k20000_1⟩ => [(5, .slice o20000_1 l20000_1.length k20000_1), (10, .slice x6 y4.length x7), (11, .int .i64 ((y4.length : Nat) : Int)), (12, .int .i64 ((v12_1 : Nat) : Int))]) (M := fun ⟨rs130, v12_1, l20000_1, o20000_1, k20000_1⟩ => [(2, o45 x6 x7 y4), (20000, o3 o20000_1 k20000_1 l20000_1)]) ?_ ⟨y4, 0, ([] : List Int), none, 0⟩ ⟨List.drop_zero .., hm⟩
  rintro ⟨rs130, v12_1, l20000_1, o20000_1, k20000_1⟩ ⟨hd86, hm⟩ ih131
  cases rs130 with
  | nil =>
    replace hm := (hfn135 _ _).symm.trans hm
    try dsimp only at hm
    refine GS.seq ?_
    refine GS.region (env' := fun _ => [(5, .slice o20000_1 l20000_1.length k20000_1), (10, .slice x6 y4.length x7), (11, .int .i64 ((y4.length : Nat) : Int)), (12, .int .i64 ((v12_1 : Nat) : Int)), (13, .bool (decide (((v12_1 : Nat) : Int) < ((y4.length : Nat) : Int))))]) (mem' := fun _ => [(2, o45 x6 x7 y4), (20000, o3 o20000_1 k20000_1 l20000_1)]) (RunsTo.mk [] [5, 10, 11, 12, 13] [2, 20000] (fun _ => []) (fun _ => by kernel_rfl) (fun _ => trivial)) ?_
    intro _
    refine GS.seq ?_
    refine GS.cond (t := decide (((v12_1 : Nat) : Int) < ((y4.length : Nat) : Int))) rfl rfl (fun h128 => absb h128 (drop_dec0 hd86)) (fun _ => ?_)
    refine GS.exit rfl ?_
    refine GS.seq ?_
    refine GS.region (env' := fun _ => [(4, .slice o20000_1 l20000_1.length k20000_1)]) (mem' := fun _ => [(20000, o3 o20000_1 k20000_1 l20000_1)]) (RunsTo.mk [] [4] [20000] (fun _ => []) (fun _ => by kernel_rfl) (fun _ => trivial)) ?_
    intro _
    have hy := Option.some.inj hm
    subst hy
    refine GS.ret (fn := Tryd.f27) [0] [.slice o20000_1 l20000_1.length k20000_1] [] rfl Tryd.func27 (by kernel_rfl) trivial (fun w' hs => ?_)
    exact ⟨⟨o20000_1, k20000_1⟩, rfl, hs.turnedG (ks := [20000]) rfl rfl⟩
  | cons x88 rs130 =>
    replace hm := (hst134 _ _ _ _).symm.trans hm
    try dsimp only at hm
    refine GS.seq ?_
    refine GS.region (env' := fun _ => [(5, .slice o20000_1 l20000_1.length k20000_1), (10, .slice x6 y4.length x7), (11, .int .i64 ((y4.length : Nat) : Int)), (12, .int .i64 ((v12_1 : Nat) : Int)), (13, .bool (decide (((v12_1 : Nat) : Int) < ((y4.length : Nat) : Int))))]) (mem' := fun _ => [(2, o45 x6 x7 y4), (20000, o3 o20000_1 k20000_1 l20000_1)]) (RunsTo.mk [] [5, 10, 11, 12, 13] [2, 20000] (fun _ => []) (fun _ => by kernel_rfl) (fun _ => trivial)) ?_
    intro _
    refine GS.seq ?_
    refine GS.cond (t := decide (((v12_1 : Nat) : Int) < ((y4.length : Nat) : Int))) rfl rfl (fun _ => ?_) (fun h90 => absb (drop_dec hd86) h90)
    refine GS.skip ?_
    refine GS.seq ?_
    refine GS.block ?_
    refine GS.seq ?_
    refine GS.region (env' := fun fr91 => [(5, .slice o20000_1 l20000_1.length k20000_1), (7, .pointer (some ⟨(fr91 2).x, 0, none⟩)), (10, .slice x6 y4.length x7), (11, .int .i64 ((y4.length : Nat) : Int)), (12, .int .i64 ((v12_1 : Nat) : Int))]) (mem' := fun fr91 => [(2, o45 x6 x7 y4), (20000, o3 o20000_1 k20000_1 l20000_1), (20001, .cells ((fr91 2).x) 45 [.int .i64 x88.Object, .int .i64 x88.At, .int .i64 x88.N])]) (RunsTo.mk [(0, { act := .idx 2 v12_1 }), (1, { act := .load 2 v12_1 0 [.int .i64 x88.Object, .int .i64 x88.At, .int .i64 x88.N] }), (2, { act := .new .var, key := some 20001 }), (3, { act := .store 0 0 [], key := some 20001 })] [5, 7, 10, 11, 12] [2, 20000, 20001] (fun fr91 => [x6 = x6, y4.length = (List.map S_tholeref24_Extent.row y4).length, (((v12_1 : Nat) : Int) : Int) = ((v12_1 : Nat) : Int), v12_1 < y4.length, blk x6 = blk x6, offs x6 + v12_1 * 3 = offs x6 + (v12_1 * 3 + 0), (List.map S_tholeref24_Extent.row y4)[v12_1]? = some [.int .i64 x88.Object, .int .i64 x88.At, .int .i64 x88.N], (fr91 2).x = (fr91 2).x, ((.agg #[.int .i64 x88.Object, .int .i64 x88.At, .int .i64 x88.N]) : Value).cells.toList.all Value.oneCell' = true]) (fun fr91 => by kernel_rfl) (fun fr91 => ⟨rfl, mlen S_tholeref24_Extent.row y4, rfl, (drop_lt hd86), rfl, rfl, map_drop S_tholeref24_Extent.row hd86, rfl, rfl, trivial⟩)) ?_
    intro fr91
    refine GS.seq ?_
    refine GS.block ?_
    refine GS.loop ?_
    refine GS.know (p := l20000_1.length ≤ k20000_1) (fun w hw => by first | (have h := (hw.ok 20000 _ rfl).1.1; rw [List.length_map] at h; exact h) | simpa using (hw.ok 20000 _ rfl).1.1) (fun k92 => ?_)
    refine GS.rekey (env' := [(5, .slice o20000_1 l20000_1.length k20000_1), (7, .pointer (some ⟨(fr91 2).x, 0, none⟩)), (10, .slice x6 y4.length x7), (11, .int .i64 ((y4.length : Nat) : Int)), (12, .int .i64 ((v12_1 : Nat) : Int))]) (mem' := [(2, o45 x6 x7 y4), (20000, o3 o20000_1 k20000_1 l20000_1), (20001, .cells ((fr91 2).x) 45 [.int .i64 x88.Object, .int .i64 x88.At, .int .i64 x88.N])]) [5, 7, 10, 11, 12] [(2, 2), (20000, 20000), (20001, 20001)] (by kernel_rfl) (by kernel_rfl) rfl ?_
    refine loopW_elim hm (fun st109 hst111 hm => ?_)
    refine GS.loopInv (ι := Nat × List Int × Option Addr × Nat) (I := fun ⟨rs107, l20000_4, o20000_4, k20000_4⟩ => loopW st109 rs107 l20000_4 = some y) (μ := fun ⟨rs107, l20000_4, o20000_4, k20000_4⟩ => rs107) (E := fun ⟨rs107, l20000_4, o20000_4, k20000_4⟩ => [(5, .slice o20000_4 l20000_4.length k20000_4), (7, .pointer (some ⟨(fr91 2).x, 0, none⟩)), (10, .slice x6 y4.length x7), (11, .int .i64 ((y4.length : Nat) : Int)), (12, .int .i64 ((v12_1 : Nat) : Int))]) (M := fun ⟨rs107, l20000_4, o20000_4, k20000_4⟩ => [(2, o45 x6 x7 y4), (20000, o3 o20000_4 k20000_4 l20000_4), (20001, .cells ((fr91 2).x) 45 [.int .i64 x88.Object, .int .i64 x88.At, .int .i64 x88.N])]) ?_ ⟨F, l20000_1, o20000_1, k20000_1⟩ hm
    rintro ⟨rs107, l20000_4, o20000_4, k20000_4⟩ hm ih108
    cases rs107 with
    | zero => cases hm
    | succ rs107 =>
      replace hm := (hst111 _ _).symm.trans hm
      try dsimp only at hm
      refine GS.seq ?_
      refine GS.seq ?_
      refine GS.region (env' := fun _ => [(5, .slice o20000_4 l20000_4.length k20000_4), (7, .pointer (some ⟨(fr91 2).x, 0, none⟩)), (10, .slice x6 y4.length x7), (11, .int .i64 ((y4.length : Nat) : Int)), (12, .int .i64 ((v12_1 : Nat) : Int)), (20, .bool (decide (((l20000_4.length : Nat) : Int) ≤ x88.Object)))]) (mem' := fun _ => [(2, o45 x6 x7 y4), (20000, o3 o20000_4 k20000_4 l20000_4), (20001, .cells ((fr91 2).x) 45 [.int .i64 x88.Object, .int .i64 x88.At, .int .i64 x88.N])]) (RunsTo.mk [(3, { act := .load 20001 0 0 [] })] [5, 7, 10, 11, 12, 20] [2, 20000, 20001] (fun _ => [(fr91 2).x = (fr91 2).x]) (fun _ => by kernel_rfl) (fun _ => ⟨rfl, trivial⟩)) ?_
      intro _
      refine GS.cond (t := decide (((l20000_4.length : Nat) : Int) ≤ x88.Object)) rfl rfl (fun h103 => ?_) (fun h103 => ?_)
      · replace hm := br_t h103 hm
        refine GS.skip ?_
        refine GS.block ?_
        refine grd_elim hm (fun g105 hm => ?_)
        refine GS.region (env' := fun fr104 => [(5, .slice ((fr104 2).ob) ((l20000_4 ++ [0]).length) ((fr104 2).cap)), (7, .pointer (some ⟨(fr91 2).x, 0, none⟩)), (10, .slice x6 y4.length x7), (11, .int .i64 ((y4.length : Nat) : Int)), (12, .int .i64 ((v12_1 : Nat) : Int))]) (mem' := fun fr104 => [(2, o45 x6 x7 y4), (20000, .osl ((fr104 2).ob) ((fr104 2).cap) 3 1 ((List.map rI l20000_4) ++ ([[.int .i64 0]] : List (List Value)))), (20001, .cells ((fr91 2).x) 45 [.int .i64 x88.Object, .int .i64 x88.At, .int .i64 x88.N])]) (RunsTo.mk [(1, { act := .new (.row 1 1), key := some 20002, spf := some (fun f => .slice (some (Addr.mk f.x 0 none)) ([0].length) 1) }), (2, { act := .app (some 20002), key := some 20000, spf := some (fun f => .slice (f.ob) ((l20000_4 ++ [0]).length) (f.cap)) })] [5, 7, 10, 11, 12] [2, 20000, 20001] (fun fr104 => [((.slice (some (Addr.mk (fr104 1).x 0 none)) 1 1) : Value) = .slice (some (Addr.mk (fr104 1).x 0 none)) ([0].length) 1, (some (Addr.mk (fr104 1).x 0 none)) = (some (Addr.mk (fr104 1).x 0 none)), [0].length = ([[.int .i64 0]] : List (List Value)).length, o20000_4 = o20000_4, k20000_4 = k20000_4, l20000_4.length = (List.map rI l20000_4).length, ((List.map rI l20000_4).length + ([[.int .i64 0]] : List (List Value)).length) * (8 + 1) ≤ 70368744177664, ([[.int .i64 0]] : List (List Value)).flatten.all Value.oneCell' = true, ((.slice ((fr104 2).ob) (l20000_4.length + ([[.int .i64 0]] : List (List Value)).length) ((fr104 2).cap)) : Value) = .slice ((fr104 2).ob) ((l20000_4 ++ [0]).length) ((fr104 2).cap)]) (fun fr104 => by kernel_rfl) (fun fr104 => ⟨rfl, rfl, (by rw [show ([[.int .i64 0]] : List (List Value)) = List.map rI [0] from rfl]; exact mlen rI [0]), rfl, rfl, mlen rI l20000_4, appb g105 (mlen rI l20000_4).symm (by rw [show ([[.int .i64 0]] : List (List Value)) = List.map rI [0] from rfl]; exact (mlen rI [0]).symm), (by rw [show ([[.int .i64 0]] : List (List Value)) = List.map rI [0] from (show ([[.int .i64 0]] : List (List Value)) = List.map rI [0] from rfl)]; exact all_one rI _ (fun _ => rfl)), slen (by simp), trivial⟩)) ?_
        intro fr104
        refine GS.conv (mem' := [(2, o45 x6 x7 y4), (20000, o3 ((fr104 2).ob) ((fr104 2).cap) (l20000_4 ++ [0])), (20001, .cells ((fr91 2).x) 45 [.int .i64 x88.Object, .int .i64 x88.At, .int .i64 x88.N])]) rfl (congrArg (fun rr : List (List Value) => ([(2, o45 x6 x7 y4), (20000, .osl ((fr104 2).ob) ((fr104 2).cap) 3 1 rr), (20001, .cells ((fr91 2).x) 45 [.int .i64 x88.Object, .int .i64 x88.At, .int .i64 x88.N])] : List (Nat × Ent))) (show (List.map rI l20000_4) ++ ([[.int .i64 0]] : List (List Value)) = List.map rI (l20000_4 ++ [0]) from (by rw [show List.map rI l20000_4 = List.map rI l20000_4 from rfl, show ([[.int .i64 0]] : List (List Value)) = List.map rI [0] from (show ([[.int .i64 0]] : List (List Value)) = List.map rI [0] from rfl)]; exact mapp rI _ _))) ?_
        refine GS.inBlock ?_
        refine GS.inLoop ?_
        refine GS.rekey (env' := [(5, .slice ((fr104 2).ob) ((l20000_4 ++ [0]).length) ((fr104 2).cap)), (7, .pointer (some ⟨(fr91 2).x, 0, none⟩)), (10, .slice x6 y4.length x7), (11, .int .i64 ((y4.length : Nat) : Int)), (12, .int .i64 ((v12_1 : Nat) : Int))]) (mem' := [(2, o45 x6 x7 y4), (20000, o3 ((fr104 2).ob) ((fr104 2).cap) (l20000_4 ++ [0])), (20001, .cells ((fr91 2).x) 45 [.int .i64 x88.Object, .int .i64 x88.At, .int .i64 x88.N])]) [5, 7, 10, 11, 12] [(2, 2), (20000, 20000), (20001, 20001)] (by kernel_rfl) (by kernel_rfl) rfl ?_
        exact ih108 ⟨rs107, (l20000_4 ++ [0]), (fr104 2).ob, (fr104 2).cap⟩ hm (Nat.lt_succ_self _)
      · replace hm := br_f h103 hm
        refine GS.exit rfl ?_
        refine GS.seq ?_
        refine grd_elim hm (fun g114 hm => ?_)
        refine grd_elim hm (fun g115 hm => ?_)
        refine GS.region (env' := fun _ => [(5, .slice o20000_4 l20000_4.length k20000_4), (7, .pointer (some ⟨(fr91 2).x, 0, none⟩)), (10, .slice x6 y4.length x7), (11, .int .i64 ((y4.length : Nat) : Int)), (12, .int .i64 ((v12_1 : Nat) : Int)), (34, .bool (decide ((x88.At + x88.N) > (l20000_4.getD (Int.toNat x88.Object) 0))))]) (mem' := fun _ => [(2, o45 x6 x7 y4), (20000, o3 o20000_4 k20000_4 l20000_4), (20001, .cells ((fr91 2).x) 45 [.int .i64 x88.Object, .int .i64 x88.At, .int .i64 x88.N])]) (RunsTo.mkd [(1, { act := .load 20001 0 0 [] }), (3, { act := .load 20001 0 0 [] }), (4, { sp := some (.int .i64 (x88.At + x88.N)) }), (7, { act := .load 20001 0 0 [] }), (8, { act := .idx 20000 (Int.toNat x88.Object) }), (9, { act := .load 20000 (Int.toNat x88.Object) 0 [.int .i64 (l20000_4.getD (Int.toNat x88.Object) 0)] })] [5, 7, 10, 11, 12, 34] [2, 20000, 20001] (fun _ => [(fr91 2).x = (fr91 2).x, (fr91 2).x = (fr91 2).x, ((.int .i64 (IntKind.i64.wrap (x88.At + x88.N))) : Value) = .int .i64 (x88.At + x88.N), (fr91 2).x = (fr91 2).x, o20000_4 = o20000_4, l20000_4.length = (List.map rI l20000_4).length, (x88.Object : Int) = (((Int.toNat x88.Object) : Nat) : Int), (Int.toNat x88.Object) < l20000_4.length, blk o20000_4 = blk o20000_4, offs o20000_4 + (Int.toNat x88.Object) * 1 = offs o20000_4 + ((Int.toNat x88.Object) * 1 + 0), (List.map rI l20000_4)[(Int.toNat x88.Object)]? = some [.int .i64 (l20000_4.getD (Int.toNat x88.Object) 0)]]) (by kernel_rfl) (by kernel_rfl) (fun _ => by kernel_rfl) (fun _ => ⟨rfl, rfl, I64.w g114, rfl, rfl, mlen rI l20000_4, g115.eq, g115.2, rfl, rfl, map_at rI 0 g115.2, trivial⟩)) ?_
        intro _
        refine GS.cond (t := decide ((x88.At + x88.N) > (l20000_4.getD (Int.toNat x88.Object) 0))) rfl rfl (fun h116 => ?_) (fun h116 => ?_)
        · replace hm := br_t h116 hm
          refine GS.region (env' := fun _ => [(5, .slice o20000_4 l20000_4.length k20000_4), (10, .slice x6 y4.length x7), (11, .int .i64 ((y4.length : Nat) : Int)), (12, .int .i64 ((v12_1 : Nat) : Int))]) (mem' := fun _ => [(2, o45 x6 x7 y4), (20000, .osl o20000_4 k20000_4 3 1 ((List.map rI l20000_4).set (Int.toNat x88.Object) [.int .i64 (x88.At + x88.N)]))]) (RunsTo.mk [(2, { act := .load 20001 0 0 [] }), (4, { act := .load 20001 0 0 [] }), (6, { act := .load 20001 0 0 [] }), (7, { sp := some (.int .i64 (x88.At + x88.N)) }), (8, { act := .idx 20000 (Int.toNat x88.Object) }), (9, { act := .store (Int.toNat x88.Object) 0 [.int .i64 (l20000_4.getD (Int.toNat x88.Object) 0)], key := some 20000 })] [5, 10, 11, 12] [2, 20000] (fun _ => [(fr91 2).x = (fr91 2).x, (fr91 2).x = (fr91 2).x, (fr91 2).x = (fr91 2).x, ((.int .i64 (IntKind.i64.wrap (x88.At + x88.N))) : Value) = .int .i64 (x88.At + x88.N), o20000_4 = o20000_4, l20000_4.length = (List.map rI l20000_4).length, (x88.Object : Int) = (((Int.toNat x88.Object) : Nat) : Int), (Int.toNat x88.Object) < l20000_4.length, blk o20000_4 = blk o20000_4, offs o20000_4 + (Int.toNat x88.Object) * 1 = offs o20000_4 + ((Int.toNat x88.Object) * 1 + 0), (List.map rI l20000_4)[(Int.toNat x88.Object)]? = some [.int .i64 (l20000_4.getD (Int.toNat x88.Object) 0)], ((.int .i64 (x88.At + x88.N)) : Value).cells.toList.all Value.oneCell' = true]) (fun _ => by kernel_rfl) (fun _ => ⟨rfl, rfl, rfl, I64.w g114, rfl, mlen rI l20000_4, g115.eq, g115.2, rfl, rfl, map_at rI 0 g115.2, rfl, trivial⟩)) ?_
          intro _
          refine GS.conv (mem' := [(2, o45 x6 x7 y4), (20000, o3 o20000_4 k20000_4 (l20000_4.set (Int.toNat x88.Object) (x88.At + x88.N)))]) rfl (congrArg (fun rr : List (List Value) => ([(2, o45 x6 x7 y4), (20000, .osl o20000_4 k20000_4 3 1 rr)] : List (Nat × Ent))) (show (List.map rI l20000_4).set (Int.toNat x88.Object) [.int .i64 (x88.At + x88.N)] = List.map rI (l20000_4.set (Int.toNat x88.Object) (x88.At + x88.N)) from mset rI l20000_4 (Int.toNat x88.Object) (x88.At + x88.N))) ?_
          refine GS.inBlock ?_
          refine GS.conv (env' := [(5, .slice o20000_4 ((l20000_4.set (Int.toNat x88.Object) (x88.At + x88.N)).length) k20000_4), (10, .slice x6 y4.length x7), (11, .int .i64 ((y4.length : Nat) : Int)), (12, .int .i64 ((v12_1 : Nat) : Int))]) (congrArg (fun vhole : Value => [(5, vhole), (10, .slice x6 y4.length x7), (11, .int .i64 ((y4.length : Nat) : Int)), (12, .int .i64 ((v12_1 : Nat) : Int))]) (show ((.slice o20000_4 l20000_4.length k20000_4) : Value) = .slice o20000_4 ((l20000_4.set (Int.toNat x88.Object) (x88.At + x88.N)).length) k20000_4 from (by simp []))) rfl ?_
          refine GS.region (env' := fun _ => [(5, .slice o20000_4 ((l20000_4.set (Int.toNat x88.Object) (x88.At + x88.N)).length) k20000_4), (10, .slice x6 y4.length x7), (11, .int .i64 ((y4.length : Nat) : Int)), (12, .int .i64 ((v12_1 + 1 : Nat) : Int))]) (mem' := fun _ => [(2, o45 x6 x7 y4), (20000, o3 o20000_4 k20000_4 (l20000_4.set (Int.toNat x88.Object) (x88.At + x88.N)))]) (RunsTo.mk [(0, { sp := some (.int .i64 ((v12_1 + 1 : Nat) : Int)) })] [5, 10, 11, 12] [2, 20000] (fun _ => [((.int .i64 (IntKind.i64.wrap (((v12_1 : Nat) : Int) + 1))) : Value) = .int .i64 ((v12_1 + 1 : Nat) : Int)]) (fun _ => by kernel_rfl) (fun _ => ⟨natw (drop_lt hd86) g87, trivial⟩)) ?_
          intro _
          refine GS.inLoop ?_
          refine GS.rekey (env' := [(5, .slice o20000_4 ((l20000_4.set (Int.toNat x88.Object) (x88.At + x88.N)).length) k20000_4), (10, .slice x6 y4.length x7), (11, .int .i64 ((y4.length : Nat) : Int)), (12, .int .i64 ((v12_1 + 1 : Nat) : Int))]) (mem' := [(2, o45 x6 x7 y4), (20000, o3 o20000_4 k20000_4 (l20000_4.set (Int.toNat x88.Object) (x88.At + x88.N)))]) [5, 10, 11, 12] [(2, 2), (20000, 20000)] (by kernel_rfl) (by kernel_rfl) rfl ?_
          exact ih131 ⟨rs130, v12_1 + 1, (l20000_4.set (Int.toNat x88.Object) (x88.At + x88.N)), o20000_4, k20000_4⟩ ⟨drop_next hd86, hm⟩ (Nat.lt_succ_self _)
        · replace hm := br_f h116 hm
          refine GS.skip ?_
          refine GS.inBlock ?_
          refine GS.region (env' := fun _ => [(5, .slice o20000_4 l20000_4.length k20000_4), (10, .slice x6 y4.length x7), (11, .int .i64 ((y4.length : Nat) : Int)), (12, .int .i64 ((v12_1 + 1 : Nat) : Int))]) (mem' := fun _ => [(2, o45 x6 x7 y4), (20000, o3 o20000_4 k20000_4 l20000_4)]) (RunsTo.mk [(0, { sp := some (.int .i64 ((v12_1 + 1 : Nat) : Int)) })] [5, 10, 11, 12] [2, 20000] (fun _ => [((.int .i64 (IntKind.i64.wrap (((v12_1 : Nat) : Int) + 1))) : Value) = .int .i64 ((v12_1 + 1 : Nat) : Int)]) (fun _ => by kernel_rfl) (fun _ => ⟨natw (drop_lt hd86) g87, trivial⟩)) ?_
          intro _
          refine GS.inLoop ?_
          refine GS.rekey (env' := [(5, .slice o20000_4 l20000_4.length k20000_4), (10, .slice x6 y4.length x7), (11, .int .i64 ((y4.length : Nat) : Int)), (12, .int .i64 ((v12_1 + 1 : Nat) : Int))]) (mem' := [(2, o45 x6 x7 y4), (20000, o3 o20000_4 k20000_4 l20000_4)]) [5, 10, 11, 12] [(2, 2), (20000, 20000)] (by kernel_rfl) (by kernel_rfl) rfl ?_
          exact ih131 ⟨rs130, v12_1 + 1, l20000_4, o20000_4, k20000_4⟩ ⟨drop_next hd86, hm⟩ (Nat.lt_succ_self _)

theorem w_tholeref24_Objects (F : Nat) (a0 : S_tholeref24_Layout) (a1 : Int) {y : Int} (hm : m_tholeref24_Objects F a0 a1 = some y) : CallG Tryd.prog 24 #[.agg #[.int .i64 a0.Unit, .int .i64 a0.Count, .int .i64 a0.Size], .int .i64 a1] (X := Unit) (fun (_ : Unit) => .int .i64 y) [] [] (fun (_ : Unit) => []) := by
  intro w hg
  rw [m_tholeref24_Objects] at hm
  refine GS.start (S := mayT [] []) (mem := []) Tryd.func24 rfl Tryd.ntmps24 (Nat.le_of_ble_eq_true rfl) (hg.start rfl) ?_
  refine GS.conv (env' := [(0, .agg #[.int .i64 a0.Unit, .int .i64 a0.Count, .int .i64 a0.Size]), (1, .int .i64 a1)]) rfl rfl ?_
  refine GS.seq ?_
  refine GS.region (env' := fun fr1 => [(1, .int .i64 a1), (2, .pointer (some ⟨(fr1 0).x, 0, none⟩))]) (mem' := fun fr1 => [(1, .cells ((fr1 0).x) 24 [.int .i64 a0.Unit, .int .i64 a0.Count, .int .i64 a0.Size])]) (RunsTo.mk [(0, { act := .new .var, key := some 1 })] [1, 2] [1] (fun fr1 => []) (fun fr1 => by kernel_rfl) (fun fr1 => trivial)) ?_
  intro fr1
  refine GS.seq ?_
  refine bnd_elim hm (fun y3 e4 hm => ?_)
  refine GS.open_ ?_
  refine GR.run (i := 0) 2 (env' := fun _ => [(5, .agg #[.int .i64 a0.Unit, .int .i64 a0.Count, .int .i64 a0.Size]), (6, .int .i64 a1)]) (mem' := fun _ => []) (Nat.le_of_ble_eq_true (by kernel_rfl)) (RunsTo.mk [(0, { act := .load 1 0 0 [] })] [5, 6] [] (fun _ => [(fr1 0).x = (fr1 0).x]) (fun _ => by kernel_rfl) (fun _ => ⟨rfl, trivial⟩)) ?_
  intro _
  refine GR.callG (X := Option Addr × Nat) (i := 2) (g := 27) (args := #[.agg #[.int .i64 a0.Unit, .int .i64 a0.Count, .int .i64 a0.Size], .int .i64 a1]) (v := fun ⟨x5, x6⟩ => .slice x5 y3.length x6) (own := []) (ro := []) (es' := fun ⟨x5, x6⟩ => [o3 x5 x6 y3]) (mem' := fun ⟨x5, x6⟩ => [(2, o3 x5 x6 y3)]) (env' := fun ⟨x5, x6⟩ => [(7, .slice x5 y3.length x6)]) [] [2] [7] [2] false (by kernel_rfl) (by kernel_rfl) (by kernel_rfl) (by kernel_rfl) (by kernel_rfl) (fun _ => rfl) (fun _ _ => rfl) trivial (by rintro ⟨x5, x6⟩; kernel_rfl) (by rintro ⟨x5, x6⟩; kernel_rfl) (w_tholeref24_Sizes F a0 a1 e4) ?_
  rintro ⟨x5, x6⟩
  refine GR.run (i := 3) 2 (env' := fun _ => [(4, .int .i64 ((y3.length : Nat) : Int))]) (mem' := fun _ => []) (Nat.le_of_ble_eq_true (by kernel_rfl)) (RunsTo.mk [] [4] [] (fun _ => []) (fun _ => by kernel_rfl) (fun _ => trivial)) ?_
  intro _
  refine GR.done (Nat.le_of_ble_eq_true (by kernel_rfl)) ?_
  have hy := Option.some.inj hm
  subst hy
  refine GS.ret (fn := Tryd.f24) [0] [.int .i64 ((y3.length : Nat) : Int)] [] rfl Tryd.func24 (by kernel_rfl) trivial (fun w' hs => ?_)
  exact ⟨(), rfl, hs.turnedG (ks := []) rfl rfl⟩

theorem w_tholelaw24_StripeExtents (F : Nat) (a0 : S_stripe_Layout) (a1 : Int) (a2 : Int) {y : Bool} (hm : m_tholelaw24_StripeExtents F a0 a1 a2 = some y) : CallG Tryd.prog 5 #[.agg #[.int .i64 a0.Unit, .int .i64 a0.Count, .int .i64 a0.Size], .int .i64 a1, .int .i64 a2] (X := Unit) (fun (_ : Unit) => .bool y) [] [] (fun (_ : Unit) => []) := by
  intro w hg
  rw [m_tholelaw24_StripeExtents] at hm
  refine GS.start (S := mayT [] []) (mem := []) Tryd.func5 rfl Tryd.ntmps5 (Nat.le_of_ble_eq_true rfl) (hg.start rfl) ?_
  refine GS.conv (env' := [(0, .agg #[.int .i64 a0.Unit, .int .i64 a0.Count, .int .i64 a0.Size]), (1, .int .i64 a1), (2, .int .i64 a2)]) rfl rfl ?_
  refine GS.seq ?_
  refine GS.region (env' := fun fr1 => [(1, .int .i64 a1), (2, .int .i64 a2), (3, .pointer (some ⟨(fr1 0).x, 0, none⟩))]) (mem' := fun fr1 => [(1, .cells ((fr1 0).x) 23 [.int .i64 a0.Unit, .int .i64 a0.Count, .int .i64 a0.Size])]) (RunsTo.mk [(0, { act := .new .var, key := some 1 })] [1, 2, 3] [1] (fun fr1 => []) (fun fr1 => by kernel_rfl) (fun fr1 => trivial)) ?_
  intro fr1
  refine GS.seq ?_
  refine bnd_elim hm (fun y3 e4 hm => ?_)
  refine GS.region (env' := fun fr2 => [(1, .int .i64 a1), (2, .int .i64 a2), (3, .pointer (some ⟨(fr1 0).x, 0, none⟩)), (7, .pointer (some ⟨(fr2 2).x, 0, none⟩))]) (mem' := fun fr2 => [(1, .cells ((fr1 0).x) 23 [.int .i64 a0.Unit, .int .i64 a0.Count, .int .i64 a0.Size]), (2, .cells ((fr2 2).x) 24 [.int .i64 y3.Unit, .int .i64 y3.Count, .int .i64 y3.Size])]) (RunsTo.mk [(0, { act := .load 1 0 0 [] }), (1, { act := .call [] (.agg #[.int .i64 y3.Unit, .int .i64 y3.Count, .int .i64 y3.Size]) }), (2, { act := .new .var, key := some 2 }), (3, { act := .store 0 0 [], key := some 2 })] [1, 2, 3, 7] [1, 2] (fun fr2 => [(fr1 0).x = (fr1 0).x, CallOK Tryd.prog 9 #[.agg #[.int .i64 a0.Unit, .int .i64 a0.Count, .int .i64 a0.Size]] (.agg #[.int .i64 y3.Unit, .int .i64 y3.Count, .int .i64 y3.Size]) [], (fr2 2).x = (fr2 2).x, ((.agg #[.int .i64 y3.Unit, .int .i64 y3.Count, .int .i64 y3.Size]) : Value).cells.toList.all Value.oneCell' = true]) (fun fr2 => by kernel_rfl) (fun fr2 => ⟨rfl, (w_tholelaw24_plain F a0 e4).ok trivial, rfl, rfl, trivial⟩)) ?_
  intro fr2
  refine GS.seq ?_
  refine bnd_elim hm (fun y6 e7 hm => ?_)
  refine bnd_elim hm (fun y10 e11 hm => ?_)
  refine GS.region (env' := fun fr5 => [(2, .int .i64 a2), (3, .pointer (some ⟨(fr1 0).x, 0, none⟩)), (7, .pointer (some ⟨(fr2 2).x, 0, none⟩)), (8, .slice ((fr5 3).ob) y6.length ((fr5 3).cap)), (9, .slice ((fr5 7).ob) y10.length ((fr5 7).cap))]) (mem' := fun fr5 => [(1, .cells ((fr1 0).x) 23 [.int .i64 a0.Unit, .int .i64 a0.Count, .int .i64 a0.Size]), (2, .cells ((fr2 2).x) 24 [.int .i64 y3.Unit, .int .i64 y3.Count, .int .i64 y3.Size]), (3, o44 ((fr5 3).ob) ((fr5 3).cap) y6), (4, o45 ((fr5 7).ob) ((fr5 7).cap) y10)]) (RunsTo.mkd [(0, { act := .load 1 0 0 [] }), (3, { act := .calln [] (fun f => .slice f.ob y6.length f.cap) (fun f => o44 f.ob f.cap y6), key := some 3 }), (4, { act := .load 2 0 0 [] }), (7, { act := .calln [] (fun f => .slice f.ob y10.length f.cap) (fun f => o45 f.ob f.cap y10), key := some 4 })] [2, 3, 7, 8, 9] [1, 2, 3, 4] (fun fr5 => [(fr1 0).x = (fr1 0).x, CallN Tryd.prog 21 #[.agg #[.int .i64 a0.Unit, .int .i64 a0.Count, .int .i64 a0.Size], .int .i64 a1, .int .i64 a2] (fun f => .slice f.ob y6.length f.cap) (fun f => o44 f.ob f.cap y6) [], (fr2 2).x = (fr2 2).x, CallN Tryd.prog 22 #[.agg #[.int .i64 y3.Unit, .int .i64 y3.Count, .int .i64 y3.Size], .int .i64 a1, .int .i64 a2] (fun f => .slice f.ob y10.length f.cap) (fun f => o45 f.ob f.cap y10) []]) (by kernel_rfl) (by kernel_rfl) (fun fr5 => by kernel_rfl) (fun fr5 => ⟨rfl, CallG.toN (w_stripe_Extents F a0 a1 a2 e7) trivial, rfl, CallG.toN (w_tholeref24_Extents F y3 a1 a2 e11) trivial, trivial⟩)) ?_
  intro fr5
  refine GS.seq ?_
  refine GS.seq ?_
  refine GS.region (env' := fun _ => [(2, .int .i64 a2), (3, .pointer (some ⟨(fr1 0).x, 0, none⟩)), (7, .pointer (some ⟨(fr2 2).x, 0, none⟩)), (8, .slice ((fr5 3).ob) y6.length ((fr5 3).cap)), (9, .slice ((fr5 7).ob) y10.length ((fr5 7).cap)), (25, .bool (((y6.length : Nat) : Int) != ((y10.length : Nat) : Int)))]) (mem' := fun _ => [(1, .cells ((fr1 0).x) 23 [.int .i64 a0.Unit, .int .i64 a0.Count, .int .i64 a0.Size]), (2, .cells ((fr2 2).x) 24 [.int .i64 y3.Unit, .int .i64 y3.Count, .int .i64 y3.Size]), (3, o44 ((fr5 3).ob) ((fr5 3).cap) y6), (4, o45 ((fr5 7).ob) ((fr5 7).cap) y10)]) (RunsTo.mk [] [2, 3, 7, 8, 9, 25] [1, 2, 3, 4] (fun _ => []) (fun _ => by kernel_rfl) (fun _ => trivial)) ?_
  intro _
  refine GS.cond (t := ((y6.length : Nat) : Int) != ((y10.length : Nat) : Int)) rfl rfl (fun h15 => ?_) (fun h15 => ?_)
  · replace hm := br_t h15 hm
    refine GS.seq ?_
    refine GS.region (env' := fun _ => [(6, .bool false)]) (mem' := fun _ => []) (RunsTo.mk [] [6] [] (fun _ => []) (fun _ => by kernel_rfl) (fun _ => trivial)) ?_
    intro _
    have hy := Option.some.inj hm
    subst hy
    refine GS.ret (fn := Tryd.f5) [0] [.bool false] [] rfl Tryd.func5 (by kernel_rfl) trivial (fun w' hs => ?_)
    exact ⟨(), rfl, hs.turnedG (ks := []) rfl rfl⟩
  · replace hm := br_f h15 hm
    refine GS.skip ?_
    refine GS.seq ?_
    refine GS.seq ?_
    refine GS.region (env' := fun _ => [(2, .int .i64 a2), (3, .pointer (some ⟨(fr1 0).x, 0, none⟩)), (7, .pointer (some ⟨(fr2 2).x, 0, none⟩)), (8, .slice ((fr5 3).ob) y6.length ((fr5 3).cap)), (9, .slice ((fr5 7).ob) y10.length ((fr5 7).cap)), (27, .int .i64 ((y6.length : Nat) : Int)), (28, .int .i64 0)]) (mem' := fun _ => [(1, .cells ((fr1 0).x) 23 [.int .i64 a0.Unit, .int .i64 a0.Count, .int .i64 a0.Size]), (2, .cells ((fr2 2).x) 24 [.int .i64 y3.Unit, .int .i64 y3.Count, .int .i64 y3.Size]), (3, o44 ((fr5 3).ob) ((fr5 3).cap) y6), (4, o45 ((fr5 7).ob) ((fr5 7).cap) y10)]) (RunsTo.mk [] [2, 3, 7, 8, 9, 27, 28] [1, 2, 3, 4] (fun _ => []) (fun _ => by kernel_rfl) (fun _ => trivial)) ?_
    intro _
    refine GS.block ?_
    refine GS.loop ?_
    refine GS.know (p := y6.length ≤ (fr5 3).cap) (fun w hw => by first | (have h := (hw.ok 3 _ rfl).1.1; rw [List.length_map] at h; exact h) | simpa using (hw.ok 3 _ rfl).1.1) (fun k18 => ?_)
    refine GS.know (p := y10.length ≤ (fr5 7).cap) (fun w hw => by first | (have h := (hw.ok 4 _ rfl).1.1; rw [List.length_map] at h; exact h) | simpa using (hw.ok 4 _ rfl).1.1) (fun k19 => ?_)
    refine grd_elim hm (fun g50 hm => ?_)
    refine GS.rekey (env' := [(2, .int .i64 a2), (3, .pointer (some ⟨(fr1 0).x, 0, none⟩)), (7, .pointer (some ⟨(fr2 2).x, 0, none⟩)), (8, .slice ((fr5 3).ob) y6.length ((fr5 3).cap)), (9, .slice ((fr5 7).ob) y10.length ((fr5 7).cap)), (27, .int .i64 ((y6.length : Nat) : Int)), (28, .int .i64 0)]) (mem' := [(1, .cells ((fr1 0).x) 23 [.int .i64 a0.Unit, .int .i64 a0.Count, .int .i64 a0.Size]), (2, .cells ((fr2 2).x) 24 [.int .i64 y3.Unit, .int .i64 y3.Count, .int .i64 y3.Size]), (3, o44 ((fr5 3).ob) ((fr5 3).cap) y6), (4, o45 ((fr5 7).ob) ((fr5 7).cap) y10)]) [2, 3, 7, 8, 9, 27, 28] [(1, 1), (2, 2), (3, 3), (4, 4)] (by kernel_rfl) (by kernel_rfl) rfl ?_
    refine loopL_elim hm (fun st70 fn71 hst72 hfn73 hm => ?_)
    refine GS.loopInv (ι := List S_stripe_Extent × Nat) (I := fun ⟨rs68, v28_1⟩ => y6.drop v28_1 = rs68 ∧ loopL st70 fn71 rs68 v28_1 () = some y) (μ := fun ⟨rs68, v28_1⟩ => rs68.length) (E := fun ⟨rs68, v28_1⟩ => [(2, .int .i64 a2), (3, .pointer (some ⟨(fr1 0).x, 0, none⟩)), (7, .pointer (some ⟨(fr2 2).x, 0, none⟩)), (8, .slice ((fr5 3).ob) y6.length ((fr5 3).cap)), (9, .slice ((fr5 7).ob) y10.length ((fr5 7).cap)), (27, .int .i64 ((y6.length : Nat) : Int)), (28, .int .i64 ((v28_1 : Nat) : Int))]) (M := fun ⟨rs68, v28_1⟩ => [(1, .cells ((fr1 0).x) 23 [.int .i64 a0.Unit, .int .i64 a0.Count, .int .i64 a0.Size]), (2, .cells ((fr2 2).x) 24 [.int .i64 y3.Unit, .int .i64 y3.Count, .int .i64 y3.Size]), (3, o44 ((fr5 3).ob) ((fr5 3).cap) y6), (4, o45 ((fr5 7).ob) ((fr5 7).cap) y10)]) ?_ ⟨y6, 0⟩ ⟨List.drop_zero .., hm⟩
    rintro ⟨rs68, v28_1⟩ ⟨hd49, hm⟩ ih69
    cases rs68 with
    | nil =>
      replace hm := (hfn73 _ _).symm.trans hm
      try dsimp only at hm
      refine GS.seq ?_
      refine GS.region (env' := fun _ => [(2, .int .i64 a2), (3, .pointer (some ⟨(fr1 0).x, 0, none⟩)), (7, .pointer (some ⟨(fr2 2).x, 0, none⟩)), (8, .slice ((fr5 3).ob) y6.length ((fr5 3).cap)), (9, .slice ((fr5 7).ob) y10.length ((fr5 7).cap)), (27, .int .i64 ((y6.length : Nat) : Int)), (28, .int .i64 ((v28_1 : Nat) : Int)), (29, .bool (decide (((v28_1 : Nat) : Int) < ((y6.length : Nat) : Int))))]) (mem' := fun _ => [(1, .cells ((fr1 0).x) 23 [.int .i64 a0.Unit, .int .i64 a0.Count, .int .i64 a0.Size]), (2, .cells ((fr2 2).x) 24 [.int .i64 y3.Unit, .int .i64 y3.Count, .int .i64 y3.Size]), (3, o44 ((fr5 3).ob) ((fr5 3).cap) y6), (4, o45 ((fr5 7).ob) ((fr5 7).cap) y10)]) (RunsTo.mk [] [2, 3, 7, 8, 9, 27, 28, 29] [1, 2, 3, 4] (fun _ => []) (fun _ => by kernel_rfl) (fun _ => trivial)) ?_
      intro _
      refine GS.seq ?_
      refine GS.cond (t := decide (((v28_1 : Nat) : Int) < ((y6.length : Nat) : Int))) rfl rfl (fun h66 => absb h66 (drop_dec0 hd49)) (fun _ => ?_)
      refine GS.exit rfl ?_
      refine GS.seq ?_
      refine bnd_elim hm (fun y75 e76 hm => ?_)
      refine bnd_elim hm (fun y77 e78 hm => ?_)
      refine br_elim hm (fun h79 hm => ?_) (fun h79 hm => ?_)
      · skip
        refine bnd_elim hm (fun y80 e81 hm => ?_)
        refine bnd_elim hm (fun y84 e85 hm => ?_)
        refine bnd_elim hm (fun y88 e89 hm => ?_)
        refine br_elim hm (fun h90 hm => ?_) (fun h90 hm => ?_)
        · skip
          refine bnd_elim hm (fun y91 e92 hm => ?_)
          refine GS.region (env' := fun fr74 => [(6, .bool y91)]) (mem' := fun fr74 => []) (RunsTo.mkd [(0, { act := .load 1 0 0 [] }), (2, { act := .call [] (.int .i64 y75) }), (3, { act := .load 2 0 0 [] }), (5, { act := .call [] (.int .i64 y77) }), (7, { sp := some (.bool true) }), (8, { act := .load 1 0 0 [] }), (10, { act := .calln [] (fun f => .slice f.ob y80.length f.cap) (fun f => o3 f.ob f.cap y80), key := some 5 }), (11, { act := .load 2 0 0 [] }), (13, { act := .calln [] (fun f => .slice f.ob y84.length f.cap) (fun f => o3 f.ob f.cap y84), key := some 6 }), (14, { act := .call [5, 6] (.bool y88) }), (16, { sp := some (.bool true) }), (17, { act := .call [] (.bool y91) })] [6] [] (fun fr74 => [(fr1 0).x = (fr1 0).x, CallOK Tryd.prog 23 #[.agg #[.int .i64 a0.Unit, .int .i64 a0.Count, .int .i64 a0.Size], .int .i64 a2] (.int .i64 y75) [], (fr2 2).x = (fr2 2).x, CallOK Tryd.prog 24 #[.agg #[.int .i64 y3.Unit, .int .i64 y3.Count, .int .i64 y3.Size], .int .i64 a2] (.int .i64 y77) [], ((.bool (y75 == y77)) : Value) = .bool true, (fr1 0).x = (fr1 0).x, CallN Tryd.prog 26 #[.agg #[.int .i64 a0.Unit, .int .i64 a0.Count, .int .i64 a0.Size], .int .i64 a2] (fun f => .slice f.ob y80.length f.cap) (fun f => o3 f.ob f.cap y80) [], (fr2 2).x = (fr2 2).x, CallN Tryd.prog 27 #[.agg #[.int .i64 y3.Unit, .int .i64 y3.Count, .int .i64 y3.Size], .int .i64 a2] (fun f => .slice f.ob y84.length f.cap) (fun f => o3 f.ob f.cap y84) [], CallOK Tryd.prog 25 #[.slice ((fr74 10).ob) y80.length ((fr74 10).cap), .slice ((fr74 13).ob) y84.length ((fr74 13).cap)] (.bool y88) [some (o3 ((fr74 10).ob) ((fr74 10).cap) y80), some (o3 ((fr74 13).ob) ((fr74 13).cap) y84)], ((.bool y88) : Value) = .bool true, CallOK Tryd.prog 16 #[] (.bool y91) []]) (by kernel_rfl) (by kernel_rfl) (fun fr74 => by kernel_rfl) (fun fr74 => ⟨rfl, (w_stripe_Objects F a0 a2 e76).ok trivial, rfl, (w_tholeref24_Objects F y3 a2 e78).ok trivial, bool_eq h79, rfl, CallG.toN (w_stripe_Sizes F a0 a2 e81) trivial, rfl, CallG.toN (w_tholeref24_Sizes F y3 a2 e85) trivial, (w_tholeref01_Ints F ((fr74 10).ob) ((fr74 10).cap) y80 ((fr74 13).ob) ((fr74 13).cap) y84 e89).ok ⟨(.inl ⟨o3 ((fr74 10).ob) ((fr74 10).cap) y80, .head _, Cov.osl_rd⟩), (.inl ⟨o3 ((fr74 13).ob) ((fr74 13).cap) y84, (.tail _ (.head _)), Cov.osl_rd⟩), trivial⟩, bool_eq h90, (w_tholelaw24_lives F  e92).ok trivial, trivial⟩)) ?_
          intro fr74
          have hy := Option.some.inj hm
          subst hy
          refine GS.ret (fn := Tryd.f5) [0] [.bool y91] [] rfl Tryd.func5 (by kernel_rfl) trivial (fun w' hs => ?_)
          exact ⟨(), rfl, hs.turnedG (ks := []) rfl rfl⟩
        · skip
          refine GS.region (env' := fun fr74 => [(6, .bool false)]) (mem' := fun fr74 => []) (RunsTo.mkd [(0, { act := .load 1 0 0 [] }), (2, { act := .call [] (.int .i64 y75) }), (3, { act := .load 2 0 0 [] }), (5, { act := .call [] (.int .i64 y77) }), (7, { sp := some (.bool true) }), (8, { act := .load 1 0 0 [] }), (10, { act := .calln [] (fun f => .slice f.ob y80.length f.cap) (fun f => o3 f.ob f.cap y80), key := some 5 }), (11, { act := .load 2 0 0 [] }), (13, { act := .calln [] (fun f => .slice f.ob y84.length f.cap) (fun f => o3 f.ob f.cap y84), key := some 6 }), (14, { act := .call [5, 6] (.bool y88) }), (16, { sp := some (.bool false) })] [6] [] (fun fr74 => [(fr1 0).x = (fr1 0).x, CallOK Tryd.prog 23 #[.agg #[.int .i64 a0.Unit, .int .i64 a0.Count, .int .i64 a0.Size], .int .i64 a2] (.int .i64 y75) [], (fr2 2).x = (fr2 2).x, CallOK Tryd.prog 24 #[.agg #[.int .i64 y3.Unit, .int .i64 y3.Count, .int .i64 y3.Size], .int .i64 a2] (.int .i64 y77) [], ((.bool (y75 == y77)) : Value) = .bool true, (fr1 0).x = (fr1 0).x, CallN Tryd.prog 26 #[.agg #[.int .i64 a0.Unit, .int .i64 a0.Count, .int .i64 a0.Size], .int .i64 a2] (fun f => .slice f.ob y80.length f.cap) (fun f => o3 f.ob f.cap y80) [], (fr2 2).x = (fr2 2).x, CallN Tryd.prog 27 #[.agg #[.int .i64 y3.Unit, .int .i64 y3.Count, .int .i64 y3.Size], .int .i64 a2] (fun f => .slice f.ob y84.length f.cap) (fun f => o3 f.ob f.cap y84) [], CallOK Tryd.prog 25 #[.slice ((fr74 10).ob) y80.length ((fr74 10).cap), .slice ((fr74 13).ob) y84.length ((fr74 13).cap)] (.bool y88) [some (o3 ((fr74 10).ob) ((fr74 10).cap) y80), some (o3 ((fr74 13).ob) ((fr74 13).cap) y84)], ((.bool y88) : Value) = .bool false]) (by kernel_rfl) (by kernel_rfl) (fun fr74 => by kernel_rfl) (fun fr74 => ⟨rfl, (w_stripe_Objects F a0 a2 e76).ok trivial, rfl, (w_tholeref24_Objects F y3 a2 e78).ok trivial, bool_eq h79, rfl, CallG.toN (w_stripe_Sizes F a0 a2 e81) trivial, rfl, CallG.toN (w_tholeref24_Sizes F y3 a2 e85) trivial, (w_tholeref01_Ints F ((fr74 10).ob) ((fr74 10).cap) y80 ((fr74 13).ob) ((fr74 13).cap) y84 e89).ok ⟨(.inl ⟨o3 ((fr74 10).ob) ((fr74 10).cap) y80, .head _, Cov.osl_rd⟩), (.inl ⟨o3 ((fr74 13).ob) ((fr74 13).cap) y84, (.tail _ (.head _)), Cov.osl_rd⟩), trivial⟩, bool_eq h90, trivial⟩)) ?_
          intro fr74
          have hy := Option.some.inj hm
          subst hy
          refine GS.ret (fn := Tryd.f5) [0] [.bool false] [] rfl Tryd.func5 (by kernel_rfl) trivial (fun w' hs => ?_)
          exact ⟨(), rfl, hs.turnedG (ks := []) rfl rfl⟩
      · skip
        refine GS.region (env' := fun _ => [(6, .bool false)]) (mem' := fun _ => []) (RunsTo.mkd [(0, { act := .load 1 0 0 [] }), (2, { act := .call [] (.int .i64 y75) }), (3, { act := .load 2 0 0 [] }), (5, { act := .call [] (.int .i64 y77) }), (7, { sp := some (.bool false) })] [6] [] (fun _ => [(fr1 0).x = (fr1 0).x, CallOK Tryd.prog 23 #[.agg #[.int .i64 a0.Unit, .int .i64 a0.Count, .int .i64 a0.Size], .int .i64 a2] (.int .i64 y75) [], (fr2 2).x = (fr2 2).x, CallOK Tryd.prog 24 #[.agg #[.int .i64 y3.Unit, .int .i64 y3.Count, .int .i64 y3.Size], .int .i64 a2] (.int .i64 y77) [], ((.bool (y75 == y77)) : Value) = .bool false]) (by kernel_rfl) (by kernel_rfl) (fun _ => by kernel_rfl) (fun _ => ⟨rfl, (w_stripe_Objects F a0 a2 e76).ok trivial, rfl, (w_tholeref24_Objects F y3 a2 e78).ok trivial, bool_eq h79, trivial⟩)) ?_
        intro _
        have hy := Option.some.inj hm
        subst hy
        refine GS.ret (fn := Tryd.f5) [0] [.bool false] [] rfl Tryd.func5 (by kernel_rfl) trivial (fun w' hs => ?_)
        exact ⟨(), rfl, hs.turnedG (ks := []) rfl rfl⟩
    | cons x51 rs68 =>
      replace hm := (hst72 _ _ _ _).symm.trans hm
      try dsimp only at hm
      refine GS.seq ?_
      refine GS.region (env' := fun _ => [(2, .int .i64 a2), (3, .pointer (some ⟨(fr1 0).x, 0, none⟩)), (7, .pointer (some ⟨(fr2 2).x, 0, none⟩)), (8, .slice ((fr5 3).ob) y6.length ((fr5 3).cap)), (9, .slice ((fr5 7).ob) y10.length ((fr5 7).cap)), (27, .int .i64 ((y6.length : Nat) : Int)), (28, .int .i64 ((v28_1 : Nat) : Int)), (29, .bool (decide (((v28_1 : Nat) : Int) < ((y6.length : Nat) : Int))))]) (mem' := fun _ => [(1, .cells ((fr1 0).x) 23 [.int .i64 a0.Unit, .int .i64 a0.Count, .int .i64 a0.Size]), (2, .cells ((fr2 2).x) 24 [.int .i64 y3.Unit, .int .i64 y3.Count, .int .i64 y3.Size]), (3, o44 ((fr5 3).ob) ((fr5 3).cap) y6), (4, o45 ((fr5 7).ob) ((fr5 7).cap) y10)]) (RunsTo.mk [] [2, 3, 7, 8, 9, 27, 28, 29] [1, 2, 3, 4] (fun _ => []) (fun _ => by kernel_rfl) (fun _ => trivial)) ?_
      intro _
      refine GS.seq ?_
      refine GS.cond (t := decide (((v28_1 : Nat) : Int) < ((y6.length : Nat) : Int))) rfl rfl (fun _ => ?_) (fun h53 => absb (drop_dec hd49) h53)
      refine GS.skip ?_
      refine GS.seq ?_
      refine GS.block ?_
      refine GS.seq ?_
      refine GS.region (env' := fun _ => [(2, .int .i64 a2), (3, .pointer (some ⟨(fr1 0).x, 0, none⟩)), (7, .pointer (some ⟨(fr2 2).x, 0, none⟩)), (8, .slice ((fr5 3).ob) y6.length ((fr5 3).cap)), (9, .slice ((fr5 7).ob) y10.length ((fr5 7).cap)), (10, .int .i64 ((v28_1 : Nat) : Int)), (27, .int .i64 ((y6.length : Nat) : Int)), (28, .int .i64 ((v28_1 : Nat) : Int))]) (mem' := fun _ => [(1, .cells ((fr1 0).x) 23 [.int .i64 a0.Unit, .int .i64 a0.Count, .int .i64 a0.Size]), (2, .cells ((fr2 2).x) 24 [.int .i64 y3.Unit, .int .i64 y3.Count, .int .i64 y3.Size]), (3, o44 ((fr5 3).ob) ((fr5 3).cap) y6), (4, o45 ((fr5 7).ob) ((fr5 7).cap) y10)]) (RunsTo.mk [] [2, 3, 7, 8, 9, 10, 27, 28] [1, 2, 3, 4] (fun _ => []) (fun _ => by kernel_rfl) (fun _ => trivial)) ?_
      intro _
      refine GS.seq ?_
      refine jn_elim hm (fun J59 hJ61 hm => ?_)
      refine GS.cut (ι := Bool) (I := fun (v67_3 : Bool) => J59 v67_3 = some y) (E := fun (v67_3 : Bool) => [(2, .int .i64 a2), (3, .pointer (some ⟨(fr1 0).x, 0, none⟩)), (7, .pointer (some ⟨(fr2 2).x, 0, none⟩)), (8, .slice ((fr5 3).ob) y6.length ((fr5 3).cap)), (9, .slice ((fr5 7).ob) y10.length ((fr5 7).cap)), (27, .int .i64 ((y6.length : Nat) : Int)), (28, .int .i64 ((v28_1 : Nat) : Int)), (67, .bool v67_3)]) (M := fun (v67_3 : Bool) => [(1, .cells ((fr1 0).x) 23 [.int .i64 a0.Unit, .int .i64 a0.Count, .int .i64 a0.Size]), (2, .cells ((fr2 2).x) 24 [.int .i64 y3.Unit, .int .i64 y3.Count, .int .i64 y3.Size]), (3, o44 ((fr5 3).ob) ((fr5 3).cap) y6), (4, o45 ((fr5 7).ob) ((fr5 7).cap) y10)]) ?_ ?_
      rotate_left
      · intro H60
        refine grd_elim hm (fun g56 hm => ?_)
        refine br_elim hm (fun h57 hm => ?_) (fun h57 hm => ?_)
        · skip
          refine GS.region (env' := fun _ => [(2, .int .i64 a2), (3, .pointer (some ⟨(fr1 0).x, 0, none⟩)), (7, .pointer (some ⟨(fr2 2).x, 0, none⟩)), (8, .slice ((fr5 3).ob) y6.length ((fr5 3).cap)), (9, .slice ((fr5 7).ob) y10.length ((fr5 7).cap)), (27, .int .i64 ((y6.length : Nat) : Int)), (28, .int .i64 ((v28_1 : Nat) : Int)), (67, .bool true)]) (mem' := fun _ => [(1, .cells ((fr1 0).x) 23 [.int .i64 a0.Unit, .int .i64 a0.Count, .int .i64 a0.Size]), (2, .cells ((fr2 2).x) 24 [.int .i64 y3.Unit, .int .i64 y3.Count, .int .i64 y3.Size]), (3, o44 ((fr5 3).ob) ((fr5 3).cap) y6), (4, o45 ((fr5 7).ob) ((fr5 7).cap) y10)]) (RunsTo.mkd [(2, { act := .idx 3 v28_1 }), (4, { act := .load 3 v28_1 0 [.int .i64 x51.Object, .int .i64 x51.At, .int .i64 x51.N] }), (7, { act := .idx 4 v28_1 }), (9, { act := .load 4 v28_1 0 [.int .i64 ((y10.getD v28_1 dS_tholeref24_Extent).Object), .int .i64 ((y10.getD v28_1 dS_tholeref24_Extent).At), .int .i64 ((y10.getD v28_1 dS_tholeref24_Extent).N)] }), (11, { sp := some (.bool true) })] [2, 3, 7, 8, 9, 27, 28, 67] [1, 2, 3, 4] (fun _ => [(fr5 3).ob = (fr5 3).ob, y6.length = (List.map S_stripe_Extent.row y6).length, (((v28_1 : Nat) : Int) : Int) = ((v28_1 : Nat) : Int), v28_1 < y6.length, blk ((fr5 3).ob) = blk ((fr5 3).ob), offs ((fr5 3).ob) + v28_1 * 3 = offs ((fr5 3).ob) + (v28_1 * 3 + 0), (List.map S_stripe_Extent.row y6)[v28_1]? = some [.int .i64 x51.Object, .int .i64 x51.At, .int .i64 x51.N], (fr5 7).ob = (fr5 7).ob, y10.length = (List.map S_tholeref24_Extent.row y10).length, (((v28_1 : Nat) : Int) : Int) = ((v28_1 : Nat) : Int), v28_1 < y10.length, blk ((fr5 7).ob) = blk ((fr5 7).ob), offs ((fr5 7).ob) + v28_1 * 3 = offs ((fr5 7).ob) + (v28_1 * 3 + 0), (List.map S_tholeref24_Extent.row y10)[v28_1]? = some [.int .i64 ((y10.getD v28_1 dS_tholeref24_Extent).Object), .int .i64 ((y10.getD v28_1 dS_tholeref24_Extent).At), .int .i64 ((y10.getD v28_1 dS_tholeref24_Extent).N)], ((.bool (x51.Object != ((y10.getD v28_1 dS_tholeref24_Extent).Object))) : Value) = .bool true]) (by kernel_rfl) (by kernel_rfl) (fun _ => by kernel_rfl) (fun _ => ⟨rfl, mlen S_stripe_Extent.row y6, rfl, (drop_lt hd49), rfl, rfl, map_drop S_stripe_Extent.row hd49, rfl, mlen S_tholeref24_Extent.row y10, rfl, g56, rfl, rfl, map_at S_tholeref24_Extent.row dS_tholeref24_Extent g56, bool_eq h57, trivial⟩)) ?_
          intro _
          refine GS.rekey (env' := [(2, .int .i64 a2), (3, .pointer (some ⟨(fr1 0).x, 0, none⟩)), (7, .pointer (some ⟨(fr2 2).x, 0, none⟩)), (8, .slice ((fr5 3).ob) y6.length ((fr5 3).cap)), (9, .slice ((fr5 7).ob) y10.length ((fr5 7).cap)), (27, .int .i64 ((y6.length : Nat) : Int)), (28, .int .i64 ((v28_1 : Nat) : Int)), (67, .bool true)]) (mem' := [(1, .cells ((fr1 0).x) 23 [.int .i64 a0.Unit, .int .i64 a0.Count, .int .i64 a0.Size]), (2, .cells ((fr2 2).x) 24 [.int .i64 y3.Unit, .int .i64 y3.Count, .int .i64 y3.Size]), (3, o44 ((fr5 3).ob) ((fr5 3).cap) y6), (4, o45 ((fr5 7).ob) ((fr5 7).cap) y10)]) [2, 3, 7, 8, 9, 27, 28, 67] [(1, 1), (2, 2), (3, 3), (4, 4)] (by kernel_rfl) (by kernel_rfl) rfl ?_
          exact H60 true hm
        · skip
          refine br_elim hm (fun h58 hm => ?_) (fun h58 hm => ?_)
          · skip
            refine GS.region (env' := fun _ => [(2, .int .i64 a2), (3, .pointer (some ⟨(fr1 0).x, 0, none⟩)), (7, .pointer (some ⟨(fr2 2).x, 0, none⟩)), (8, .slice ((fr5 3).ob) y6.length ((fr5 3).cap)), (9, .slice ((fr5 7).ob) y10.length ((fr5 7).cap)), (27, .int .i64 ((y6.length : Nat) : Int)), (28, .int .i64 ((v28_1 : Nat) : Int)), (67, .bool true)]) (mem' := fun _ => [(1, .cells ((fr1 0).x) 23 [.int .i64 a0.Unit, .int .i64 a0.Count, .int .i64 a0.Size]), (2, .cells ((fr2 2).x) 24 [.int .i64 y3.Unit, .int .i64 y3.Count, .int .i64 y3.Size]), (3, o44 ((fr5 3).ob) ((fr5 3).cap) y6), (4, o45 ((fr5 7).ob) ((fr5 7).cap) y10)]) (RunsTo.mkd [(2, { act := .idx 3 v28_1 }), (4, { act := .load 3 v28_1 0 [.int .i64 x51.Object, .int .i64 x51.At, .int .i64 x51.N] }), (7, { act := .idx 4 v28_1 }), (9, { act := .load 4 v28_1 0 [.int .i64 ((y10.getD v28_1 dS_tholeref24_Extent).Object), .int .i64 ((y10.getD v28_1 dS_tholeref24_Extent).At), .int .i64 ((y10.getD v28_1 dS_tholeref24_Extent).N)] }), (11, { sp := some (.bool false) }), (14, { act := .idx 3 v28_1 }), (16, { act := .load 3 v28_1 1 [.int .i64 x51.Object, .int .i64 x51.At, .int .i64 x51.N] }), (19, { act := .idx 4 v28_1 }), (21, { act := .load 4 v28_1 1 [.int .i64 ((y10.getD v28_1 dS_tholeref24_Extent).Object), .int .i64 ((y10.getD v28_1 dS_tholeref24_Extent).At), .int .i64 ((y10.getD v28_1 dS_tholeref24_Extent).N)] }), (24, { sp := some (.bool true) })] [2, 3, 7, 8, 9, 27, 28, 67] [1, 2, 3, 4] (fun _ => [(fr5 3).ob = (fr5 3).ob, y6.length = (List.map S_stripe_Extent.row y6).length, (((v28_1 : Nat) : Int) : Int) = ((v28_1 : Nat) : Int), v28_1 < y6.length, blk ((fr5 3).ob) = blk ((fr5 3).ob), offs ((fr5 3).ob) + v28_1 * 3 = offs ((fr5 3).ob) + (v28_1 * 3 + 0), (List.map S_stripe_Extent.row y6)[v28_1]? = some [.int .i64 x51.Object, .int .i64 x51.At, .int .i64 x51.N], (fr5 7).ob = (fr5 7).ob, y10.length = (List.map S_tholeref24_Extent.row y10).length, (((v28_1 : Nat) : Int) : Int) = ((v28_1 : Nat) : Int), v28_1 < y10.length, blk ((fr5 7).ob) = blk ((fr5 7).ob), offs ((fr5 7).ob) + v28_1 * 3 = offs ((fr5 7).ob) + (v28_1 * 3 + 0), (List.map S_tholeref24_Extent.row y10)[v28_1]? = some [.int .i64 ((y10.getD v28_1 dS_tholeref24_Extent).Object), .int .i64 ((y10.getD v28_1 dS_tholeref24_Extent).At), .int .i64 ((y10.getD v28_1 dS_tholeref24_Extent).N)], ((.bool (x51.Object != ((y10.getD v28_1 dS_tholeref24_Extent).Object))) : Value) = .bool false, (fr5 3).ob = (fr5 3).ob, y6.length = (List.map S_stripe_Extent.row y6).length, (((v28_1 : Nat) : Int) : Int) = ((v28_1 : Nat) : Int), v28_1 < y6.length, blk ((fr5 3).ob) = blk ((fr5 3).ob), offs ((fr5 3).ob) + v28_1 * 3 + 1 = offs ((fr5 3).ob) + (v28_1 * 3 + 1), (List.map S_stripe_Extent.row y6)[v28_1]? = some [.int .i64 x51.Object, .int .i64 x51.At, .int .i64 x51.N], (fr5 7).ob = (fr5 7).ob, y10.length = (List.map S_tholeref24_Extent.row y10).length, (((v28_1 : Nat) : Int) : Int) = ((v28_1 : Nat) : Int), v28_1 < y10.length, blk ((fr5 7).ob) = blk ((fr5 7).ob), offs ((fr5 7).ob) + v28_1 * 3 + 1 = offs ((fr5 7).ob) + (v28_1 * 3 + 1), (List.map S_tholeref24_Extent.row y10)[v28_1]? = some [.int .i64 ((y10.getD v28_1 dS_tholeref24_Extent).Object), .int .i64 ((y10.getD v28_1 dS_tholeref24_Extent).At), .int .i64 ((y10.getD v28_1 dS_tholeref24_Extent).N)], ((.bool (x51.At != ((y10.getD v28_1 dS_tholeref24_Extent).At))) : Value) = .bool true]) (by kernel_rfl) (by kernel_rfl) (fun _ => by kernel_rfl) (fun _ => ⟨rfl, mlen S_stripe_Extent.row y6, rfl, (drop_lt hd49), rfl, rfl, map_drop S_stripe_Extent.row hd49, rfl, mlen S_tholeref24_Extent.row y10, rfl, g56, rfl, rfl, map_at S_tholeref24_Extent.row dS_tholeref24_Extent g56, bool_eq h57, rfl, mlen S_stripe_Extent.row y6, rfl, (drop_lt hd49), rfl, (Nat.add_assoc ..), map_drop S_stripe_Extent.row hd49, rfl, mlen S_tholeref24_Extent.row y10, rfl, g56, rfl, (Nat.add_assoc ..), map_at S_tholeref24_Extent.row dS_tholeref24_Extent g56, bool_eq h58, trivial⟩)) ?_
            intro _
            refine GS.rekey (env' := [(2, .int .i64 a2), (3, .pointer (some ⟨(fr1 0).x, 0, none⟩)), (7, .pointer (some ⟨(fr2 2).x, 0, none⟩)), (8, .slice ((fr5 3).ob) y6.length ((fr5 3).cap)), (9, .slice ((fr5 7).ob) y10.length ((fr5 7).cap)), (27, .int .i64 ((y6.length : Nat) : Int)), (28, .int .i64 ((v28_1 : Nat) : Int)), (67, .bool true)]) (mem' := [(1, .cells ((fr1 0).x) 23 [.int .i64 a0.Unit, .int .i64 a0.Count, .int .i64 a0.Size]), (2, .cells ((fr2 2).x) 24 [.int .i64 y3.Unit, .int .i64 y3.Count, .int .i64 y3.Size]), (3, o44 ((fr5 3).ob) ((fr5 3).cap) y6), (4, o45 ((fr5 7).ob) ((fr5 7).cap) y10)]) [2, 3, 7, 8, 9, 27, 28, 67] [(1, 1), (2, 2), (3, 3), (4, 4)] (by kernel_rfl) (by kernel_rfl) rfl ?_
            exact H60 true hm
          · skip
            refine GS.region (env' := fun _ => [(2, .int .i64 a2), (3, .pointer (some ⟨(fr1 0).x, 0, none⟩)), (7, .pointer (some ⟨(fr2 2).x, 0, none⟩)), (8, .slice ((fr5 3).ob) y6.length ((fr5 3).cap)), (9, .slice ((fr5 7).ob) y10.length ((fr5 7).cap)), (27, .int .i64 ((y6.length : Nat) : Int)), (28, .int .i64 ((v28_1 : Nat) : Int)), (67, .bool (x51.N != ((y10.getD v28_1 dS_tholeref24_Extent).N)))]) (mem' := fun _ => [(1, .cells ((fr1 0).x) 23 [.int .i64 a0.Unit, .int .i64 a0.Count, .int .i64 a0.Size]), (2, .cells ((fr2 2).x) 24 [.int .i64 y3.Unit, .int .i64 y3.Count, .int .i64 y3.Size]), (3, o44 ((fr5 3).ob) ((fr5 3).cap) y6), (4, o45 ((fr5 7).ob) ((fr5 7).cap) y10)]) (RunsTo.mkd [(2, { act := .idx 3 v28_1 }), (4, { act := .load 3 v28_1 0 [.int .i64 x51.Object, .int .i64 x51.At, .int .i64 x51.N] }), (7, { act := .idx 4 v28_1 }), (9, { act := .load 4 v28_1 0 [.int .i64 ((y10.getD v28_1 dS_tholeref24_Extent).Object), .int .i64 ((y10.getD v28_1 dS_tholeref24_Extent).At), .int .i64 ((y10.getD v28_1 dS_tholeref24_Extent).N)] }), (11, { sp := some (.bool false) }), (14, { act := .idx 3 v28_1 }), (16, { act := .load 3 v28_1 1 [.int .i64 x51.Object, .int .i64 x51.At, .int .i64 x51.N] }), (19, { act := .idx 4 v28_1 }), (21, { act := .load 4 v28_1 1 [.int .i64 ((y10.getD v28_1 dS_tholeref24_Extent).Object), .int .i64 ((y10.getD v28_1 dS_tholeref24_Extent).At), .int .i64 ((y10.getD v28_1 dS_tholeref24_Extent).N)] }), (24, { sp := some (.bool false) }), (27, { act := .idx 3 v28_1 }), (29, { act := .load 3 v28_1 2 [.int .i64 x51.Object, .int .i64 x51.At, .int .i64 x51.N] }), (32, { act := .idx 4 v28_1 }), (34, { act := .load 4 v28_1 2 [.int .i64 ((y10.getD v28_1 dS_tholeref24_Extent).Object), .int .i64 ((y10.getD v28_1 dS_tholeref24_Extent).At), .int .i64 ((y10.getD v28_1 dS_tholeref24_Extent).N)] })] [2, 3, 7, 8, 9, 27, 28, 67] [1, 2, 3, 4] (fun _ => [(fr5 3).ob = (fr5 3).ob, y6.length = (List.map S_stripe_Extent.row y6).length, (((v28_1 : Nat) : Int) : Int) = ((v28_1 : Nat) : Int), v28_1 < y6.length, blk ((fr5 3).ob) = blk ((fr5 3).ob), offs ((fr5 3).ob) + v28_1 * 3 = offs ((fr5 3).ob) + (v28_1 * 3 + 0), (List.map S_stripe_Extent.row y6)[v28_1]? = some [.int .i64 x51.Object, .int .i64 x51.At, .int .i64 x51.N], (fr5 7).ob = (fr5 7).ob, y10.length = (List.map S_tholeref24_Extent.row y10).length, (((v28_1 : Nat) : Int) : Int) = ((v28_1 : Nat) : Int), v28_1 < y10.length, blk ((fr5 7).ob) = blk ((fr5 7).ob), offs ((fr5 7).ob) + v28_1 * 3 = offs ((fr5 7).ob) + (v28_1 * 3 + 0), (List.map S_tholeref24_Extent.row y10)[v28_1]? = some [.int .i64 ((y10.getD v28_1 dS_tholeref24_Extent).Object), .int .i64 ((y10.getD v28_1 dS_tholeref24_Extent).At), .int .i64 ((y10.getD v28_1 dS_tholeref24_Extent).N)], ((.bool (x51.Object != ((y10.getD v28_1 dS_tholeref24_Extent).Object))) : Value) = .bool false, (fr5 3).ob = (fr5 3).ob, y6.length = (List.map S_stripe_Extent.row y6).length, (((v28_1 : Nat) : Int) : Int) = ((v28_1 : Nat) : Int), v28_1 < y6.length, blk ((fr5 3).ob) = blk ((fr5 3).ob), offs ((fr5 3).ob) + v28_1 * 3 + 1 = offs ((fr5 3).ob) + (v28_1 * 3 + 1), (List.map S_stripe_Extent.row y6)[v28_1]? = some [.int .i64 x51.Object, .int .i64 x51.At, .int .i64 x51.N], (fr5 7).ob = (fr5 7).ob, y10.length = (List.map S_tholeref24_Extent.row y10).length, (((v28_1 : Nat) : Int) : Int) = ((v28_1 : Nat) : Int), v28_1 < y10.length, blk ((fr5 7).ob) = blk ((fr5 7).ob), offs ((fr5 7).ob) + v28_1 * 3 + 1 = offs ((fr5 7).ob) + (v28_1 * 3 + 1), (List.map S_tholeref24_Extent.row y10)[v28_1]? = some [.int .i64 ((y10.getD v28_1 dS_tholeref24_Extent).Object), .int .i64 ((y10.getD v28_1 dS_tholeref24_Extent).At), .int .i64 ((y10.getD v28_1 dS_tholeref24_Extent).N)], ((.bool (x51.At != ((y10.getD v28_1 dS_tholeref24_Extent).At))) : Value) = .bool false, (fr5 3).ob = (fr5 3).ob, y6.length = (List.map S_stripe_Extent.row y6).length, (((v28_1 : Nat) : Int) : Int) = ((v28_1 : Nat) : Int), v28_1 < y6.length, blk ((fr5 3).ob) = blk ((fr5 3).ob), offs ((fr5 3).ob) + v28_1 * 3 + 2 = offs ((fr5 3).ob) + (v28_1 * 3 + 2), (List.map S_stripe_Extent.row y6)[v28_1]? = some [.int .i64 x51.Object, .int .i64 x51.At, .int .i64 x51.N], (fr5 7).ob = (fr5 7).ob, y10.length = (List.map S_tholeref24_Extent.row y10).length, (((v28_1 : Nat) : Int) : Int) = ((v28_1 : Nat) : Int), v28_1 < y10.length, blk ((fr5 7).ob) = blk ((fr5 7).ob), offs ((fr5 7).ob) + v28_1 * 3 + 2 = offs ((fr5 7).ob) + (v28_1 * 3 + 2), (List.map S_tholeref24_Extent.row y10)[v28_1]? = some [.int .i64 ((y10.getD v28_1 dS_tholeref24_Extent).Object), .int .i64 ((y10.getD v28_1 dS_tholeref24_Extent).At), .int .i64 ((y10.getD v28_1 dS_tholeref24_Extent).N)]]) (by kernel_rfl) (by kernel_rfl) (fun _ => by kernel_rfl) (fun _ => ⟨rfl, mlen S_stripe_Extent.row y6, rfl, (drop_lt hd49), rfl, rfl, map_drop S_stripe_Extent.row hd49, rfl, mlen S_tholeref24_Extent.row y10, rfl, g56, rfl, rfl, map_at S_tholeref24_Extent.row dS_tholeref24_Extent g56, bool_eq h57, rfl, mlen S_stripe_Extent.row y6, rfl, (drop_lt hd49), rfl, (Nat.add_assoc ..), map_drop S_stripe_Extent.row hd49, rfl, mlen S_tholeref24_Extent.row y10, rfl, g56, rfl, (Nat.add_assoc ..), map_at S_tholeref24_Extent.row dS_tholeref24_Extent g56, bool_eq h58, rfl, mlen S_stripe_Extent.row y6, rfl, (drop_lt hd49), rfl, (Nat.add_assoc ..), map_drop S_stripe_Extent.row hd49, rfl, mlen S_tholeref24_Extent.row y10, rfl, g56, rfl, (Nat.add_assoc ..), map_at S_tholeref24_Extent.row dS_tholeref24_Extent g56, trivial⟩)) ?_
            intro _
            refine GS.rekey (env' := [(2, .int .i64 a2), (3, .pointer (some ⟨(fr1 0).x, 0, none⟩)), (7, .pointer (some ⟨(fr2 2).x, 0, none⟩)), (8, .slice ((fr5 3).ob) y6.length ((fr5 3).cap)), (9, .slice ((fr5 7).ob) y10.length ((fr5 7).cap)), (27, .int .i64 ((y6.length : Nat) : Int)), (28, .int .i64 ((v28_1 : Nat) : Int)), (67, .bool (x51.N != ((y10.getD v28_1 dS_tholeref24_Extent).N)))]) (mem' := [(1, .cells ((fr1 0).x) 23 [.int .i64 a0.Unit, .int .i64 a0.Count, .int .i64 a0.Size]), (2, .cells ((fr2 2).x) 24 [.int .i64 y3.Unit, .int .i64 y3.Count, .int .i64 y3.Size]), (3, o44 ((fr5 3).ob) ((fr5 3).cap) y6), (4, o45 ((fr5 7).ob) ((fr5 7).cap) y10)]) [2, 3, 7, 8, 9, 27, 28, 67] [(1, 1), (2, 2), (3, 3), (4, 4)] (by kernel_rfl) (by kernel_rfl) rfl ?_
            exact H60 (x51.N != ((y10.getD v28_1 dS_tholeref24_Extent).N)) hm
      · rintro v67_3 hm
        replace hm := (hJ61 _).symm.trans hm
        try dsimp only at hm
        refine GS.cond (t := v67_3) rfl rfl (fun h62 => ?_) (fun h62 => ?_)
        · replace hm := br_t h62 hm
          refine GS.seq ?_
          refine GS.region (env' := fun _ => [(6, .bool false)]) (mem' := fun _ => []) (RunsTo.mk [] [6] [] (fun _ => []) (fun _ => by kernel_rfl) (fun _ => trivial)) ?_
          intro _
          have hy := Option.some.inj hm
          subst hy
          refine GS.ret (fn := Tryd.f5) [0] [.bool false] [] rfl Tryd.func5 (by kernel_rfl) trivial (fun w' hs => ?_)
          exact ⟨(), rfl, hs.turnedG (ks := []) rfl rfl⟩
        · replace hm := br_f h62 hm
          refine GS.skip ?_
          refine GS.inBlock ?_
          refine GS.region (env' := fun _ => [(2, .int .i64 a2), (3, .pointer (some ⟨(fr1 0).x, 0, none⟩)), (7, .pointer (some ⟨(fr2 2).x, 0, none⟩)), (8, .slice ((fr5 3).ob) y6.length ((fr5 3).cap)), (9, .slice ((fr5 7).ob) y10.length ((fr5 7).cap)), (27, .int .i64 ((y6.length : Nat) : Int)), (28, .int .i64 ((v28_1 + 1 : Nat) : Int))]) (mem' := fun _ => [(1, .cells ((fr1 0).x) 23 [.int .i64 a0.Unit, .int .i64 a0.Count, .int .i64 a0.Size]), (2, .cells ((fr2 2).x) 24 [.int .i64 y3.Unit, .int .i64 y3.Count, .int .i64 y3.Size]), (3, o44 ((fr5 3).ob) ((fr5 3).cap) y6), (4, o45 ((fr5 7).ob) ((fr5 7).cap) y10)]) (RunsTo.mk [(0, { sp := some (.int .i64 ((v28_1 + 1 : Nat) : Int)) })] [2, 3, 7, 8, 9, 27, 28] [1, 2, 3, 4] (fun _ => [((.int .i64 (IntKind.i64.wrap (((v28_1 : Nat) : Int) + 1))) : Value) = .int .i64 ((v28_1 + 1 : Nat) : Int)]) (fun _ => by kernel_rfl) (fun _ => ⟨natw (drop_lt hd49) g50, trivial⟩)) ?_
          intro _
          refine GS.inLoop ?_
          refine GS.rekey (env' := [(2, .int .i64 a2), (3, .pointer (some ⟨(fr1 0).x, 0, none⟩)), (7, .pointer (some ⟨(fr2 2).x, 0, none⟩)), (8, .slice ((fr5 3).ob) y6.length ((fr5 3).cap)), (9, .slice ((fr5 7).ob) y10.length ((fr5 7).cap)), (27, .int .i64 ((y6.length : Nat) : Int)), (28, .int .i64 ((v28_1 + 1 : Nat) : Int))]) (mem' := [(1, .cells ((fr1 0).x) 23 [.int .i64 a0.Unit, .int .i64 a0.Count, .int .i64 a0.Size]), (2, .cells ((fr2 2).x) 24 [.int .i64 y3.Unit, .int .i64 y3.Count, .int .i64 y3.Size]), (3, o44 ((fr5 3).ob) ((fr5 3).cap) y6), (4, o45 ((fr5 7).ob) ((fr5 7).cap) y10)]) [2, 3, 7, 8, 9, 27, 28] [(1, 1), (2, 2), (3, 3), (4, 4)] (by kernel_rfl) (by kernel_rfl) rfl ?_
          exact ih69 ⟨rs68, v28_1 + 1⟩ ⟨drop_next hd49, hm⟩ (Nat.lt_succ_self _)

theorem w_tholelaw24_StripeSizes (F : Nat) (a0 : S_stripe_Layout) (a1 : Int) {y : Bool} (hm : m_tholelaw24_StripeSizes F a0 a1 = some y) : CallG Tryd.prog 6 #[.agg #[.int .i64 a0.Unit, .int .i64 a0.Count, .int .i64 a0.Size], .int .u64 a1] (X := Unit) (fun (_ : Unit) => .bool y) [] [] (fun (_ : Unit) => []) := by
  intro w hg
  rw [m_tholelaw24_StripeSizes] at hm
  refine GS.start (S := mayT [] []) (mem := []) Tryd.func6 rfl Tryd.ntmps6 (Nat.le_of_ble_eq_true rfl) (hg.start rfl) ?_
  refine GS.conv (env' := [(0, .agg #[.int .i64 a0.Unit, .int .i64 a0.Count, .int .i64 a0.Size]), (1, .int .u64 a1)]) rfl rfl ?_
  refine GS.seq ?_
  refine GS.region (env' := fun fr1 => [(1, .int .u64 a1), (2, .pointer (some ⟨(fr1 0).x, 0, none⟩))]) (mem' := fun fr1 => [(1, .cells ((fr1 0).x) 23 [.int .i64 a0.Unit, .int .i64 a0.Count, .int .i64 a0.Size])]) (RunsTo.mk [(0, { act := .new .var, key := some 1 })] [1, 2] [1] (fun fr1 => []) (fun fr1 => by kernel_rfl) (fun fr1 => trivial)) ?_
  intro fr1
  refine GS.seq ?_
  refine GS.seq ?_
  refine bnd_elim hm (fun y3 e4 hm => ?_)
  refine GS.region (env' := fun _ => [(1, .int .u64 a1), (2, .pointer (some ⟨(fr1 0).x, 0, none⟩)), (14, .bool (!y3))]) (mem' := fun _ => [(1, .cells ((fr1 0).x) 23 [.int .i64 a0.Unit, .int .i64 a0.Count, .int .i64 a0.Size])]) (RunsTo.mk [(0, { act := .load 1 0 0 [] }), (1, { act := .call [] (.bool y3) })] [1, 2, 14] [1] (fun _ => [(fr1 0).x = (fr1 0).x, CallOK Tryd.prog 12 #[.agg #[.int .i64 a0.Unit, .int .i64 a0.Count, .int .i64 a0.Size]] (.bool y3) []]) (fun _ => by kernel_rfl) (fun _ => ⟨rfl, (w_stripe_Good F a0 e4).ok trivial, trivial⟩)) ?_
  intro _
  refine GS.cond (t := !y3) rfl rfl (fun h5 => ?_) (fun h5 => ?_)
  · replace hm := br_t h5 hm
    refine GS.seq ?_
    refine bnd_elim hm (fun y7 e8 hm => ?_)
    refine GS.open_ ?_
    refine GR.run (i := 0) 1 (env' := fun _ => [(15, .agg #[.int .i64 a0.Unit, .int .i64 a0.Count, .int .i64 a0.Size])]) (mem' := fun _ => []) (Nat.le_of_ble_eq_true (by kernel_rfl)) (RunsTo.mk [(0, { act := .load 1 0 0 [] })] [15] [] (fun _ => [(fr1 0).x = (fr1 0).x]) (fun _ => by kernel_rfl) (fun _ => ⟨rfl, trivial⟩)) ?_
    intro _
    refine GR.callG (X := Option Addr × Nat) (i := 1) (g := 26) (args := #[.agg #[.int .i64 a0.Unit, .int .i64 a0.Count, .int .i64 a0.Size], .int .i64 5]) (v := fun ⟨x9, x10⟩ => .slice x9 y7.length x10) (own := []) (ro := []) (es' := fun ⟨x9, x10⟩ => [o3 x9 x10 y7]) (mem' := fun ⟨x9, x10⟩ => [(2, o3 x9 x10 y7)]) (env' := fun ⟨x9, x10⟩ => [(16, .slice x9 y7.length x10)]) [] [2] [16] [2] false (by kernel_rfl) (by kernel_rfl) (by kernel_rfl) (by kernel_rfl) (by kernel_rfl) (fun _ => rfl) (fun _ _ => rfl) trivial (by rintro ⟨x9, x10⟩; kernel_rfl) (by rintro ⟨x9, x10⟩; kernel_rfl) (w_stripe_Sizes F a0 5 e8) ?_
    rintro ⟨x9, x10⟩
    refine br_elim hm (fun h12 hm => ?_) (fun h12 hm => ?_)
    · skip
      refine bnd_elim hm (fun y13 e14 hm => ?_)
      refine GR.run (i := 2) 6 (env' := fun _ => [(4, .bool y13)]) (mem' := fun _ => []) (Nat.le_of_ble_eq_true (by kernel_rfl)) (RunsTo.mk [(4, { sp := some (.bool true) }), (5, { act := .call [] (.bool y13) })] [4] [] (fun _ => [((.bool (((y7.length : Nat) : Int) == 0)) : Value) = .bool true, CallOK Tryd.prog 16 #[] (.bool y13) []]) (fun _ => by kernel_rfl) (fun _ => ⟨bool_eq h12, (w_tholelaw24_lives F  e14).ok trivial, trivial⟩)) ?_
      intro _
      refine GR.done (Nat.le_of_ble_eq_true (by kernel_rfl)) ?_
      have hy := Option.some.inj hm
      subst hy
      refine GS.ret (fn := Tryd.f6) [0] [.bool y13] [] rfl Tryd.func6 (by kernel_rfl) trivial (fun w' hs => ?_)
      exact ⟨(), rfl, hs.turnedG (ks := []) rfl rfl⟩
    · skip
      refine GR.run (i := 2) 6 (env' := fun _ => [(4, .bool false)]) (mem' := fun _ => []) (Nat.le_of_ble_eq_true (by kernel_rfl)) (RunsTo.mk [(4, { sp := some (.bool false) })] [4] [] (fun _ => [((.bool (((y7.length : Nat) : Int) == 0)) : Value) = .bool false]) (fun _ => by kernel_rfl) (fun _ => ⟨bool_eq h12, trivial⟩)) ?_
      intro _
      refine GR.done (Nat.le_of_ble_eq_true (by kernel_rfl)) ?_
      have hy := Option.some.inj hm
      subst hy
      refine GS.ret (fn := Tryd.f6) [0] [.bool false] [] rfl Tryd.func6 (by kernel_rfl) trivial (fun w' hs => ?_)
      exact ⟨(), rfl, hs.turnedG (ks := []) rfl rfl⟩
  · replace hm := br_f h5 hm
    refine GS.skip ?_
    refine GS.seq ?_
    refine GS.region (env' := fun _ => [(2, .pointer (some ⟨(fr1 0).x, 0, none⟩)), (5, .int .i64 (IntKind.i64.wrap (Int.tmod a1 20000)))]) (mem' := fun _ => [(1, .cells ((fr1 0).x) 23 [.int .i64 a0.Unit, .int .i64 a0.Count, .int .i64 a0.Size])]) (RunsTo.mk [] [2, 5] [1] (fun _ => []) (fun _ => by kernel_rfl) (fun _ => trivial)) ?_
    intro _
    refine GS.seq ?_
    refine bnd_elim hm (fun y18 e19 hm => ?_)
    refine GS.open_ ?_
    refine GR.run (i := 0) 2 (env' := fun _ => [(2, .pointer (some ⟨(fr1 0).x, 0, none⟩)), (5, .int .i64 (IntKind.i64.wrap (Int.tmod a1 20000))), (25, .agg #[.int .i64 a0.Unit, .int .i64 a0.Count, .int .i64 a0.Size]), (26, .int .i64 (IntKind.i64.wrap (Int.tmod a1 20000)))]) (mem' := fun _ => [(1, .cells ((fr1 0).x) 23 [.int .i64 a0.Unit, .int .i64 a0.Count, .int .i64 a0.Size])]) (Nat.le_of_ble_eq_true (by kernel_rfl)) (RunsTo.mk [(0, { act := .load 1 0 0 [] })] [2, 5, 25, 26] [1] (fun _ => [(fr1 0).x = (fr1 0).x]) (fun _ => by kernel_rfl) (fun _ => ⟨rfl, trivial⟩)) ?_
    intro _
    refine GR.callG (X := Option Addr × Nat) (i := 2) (g := 26) (args := #[.agg #[.int .i64 a0.Unit, .int .i64 a0.Count, .int .i64 a0.Size], .int .i64 (IntKind.i64.wrap (Int.tmod a1 20000))]) (v := fun ⟨x20, x21⟩ => .slice x20 y18.length x21) (own := []) (ro := []) (es' := fun ⟨x20, x21⟩ => [o3 x20 x21 y18]) (mem' := fun ⟨x20, x21⟩ => [(1, .cells ((fr1 0).x) 23 [.int .i64 a0.Unit, .int .i64 a0.Count, .int .i64 a0.Size]), (2, o3 x20 x21 y18)]) (env' := fun ⟨x20, x21⟩ => [(2, .pointer (some ⟨(fr1 0).x, 0, none⟩)), (5, .int .i64 (IntKind.i64.wrap (Int.tmod a1 20000))), (27, .slice x20 y18.length x21)]) [] [2] [2, 5, 27] [1, 2] false (by kernel_rfl) (by kernel_rfl) (by kernel_rfl) (by kernel_rfl) (by kernel_rfl) (fun _ => rfl) (fun _ _ => rfl) trivial (by rintro ⟨x20, x21⟩; kernel_rfl) (by rintro ⟨x20, x21⟩; kernel_rfl) (w_stripe_Sizes F a0 (IntKind.i64.wrap (Int.tmod a1 20000)) e19) ?_
    rintro ⟨x20, x21⟩
    refine GR.run (i := 3) 1 (env' := fun _ => [(2, .pointer (some ⟨(fr1 0).x, 0, none⟩)), (5, .int .i64 (IntKind.i64.wrap (Int.tmod a1 20000))), (6, .slice x20 y18.length x21)]) (mem' := fun _ => [(1, .cells ((fr1 0).x) 23 [.int .i64 a0.Unit, .int .i64 a0.Count, .int .i64 a0.Size]), (2, o3 x20 x21 y18)]) (Nat.le_of_ble_eq_true (by kernel_rfl)) (RunsTo.mk [] [2, 5, 6] [1, 2] (fun _ => []) (fun _ => by kernel_rfl) (fun _ => trivial)) ?_
    intro _
    refine GR.done (Nat.le_of_ble_eq_true (by kernel_rfl)) ?_
    refine GS.seq ?_
    refine GS.region (env' := fun _ => [(2, .pointer (some ⟨(fr1 0).x, 0, none⟩)), (5, .int .i64 (IntKind.i64.wrap (Int.tmod a1 20000))), (6, .slice x20 y18.length x21), (7, .int .i64 0)]) (mem' := fun _ => [(1, .cells ((fr1 0).x) 23 [.int .i64 a0.Unit, .int .i64 a0.Count, .int .i64 a0.Size]), (2, o3 x20 x21 y18)]) (RunsTo.mk [] [2, 5, 6, 7] [1, 2] (fun _ => []) (fun _ => by kernel_rfl) (fun _ => trivial)) ?_
    intro _
    refine GS.seq ?_
    refine GS.seq ?_
    refine GS.region (env' := fun _ => [(2, .pointer (some ⟨(fr1 0).x, 0, none⟩)), (5, .int .i64 (IntKind.i64.wrap (Int.tmod a1 20000))), (6, .slice x20 y18.length x21), (7, .int .i64 0), (28, .slice x20 y18.length x21), (29, .int .i64 ((y18.length : Nat) : Int)), (30, .int .i64 0)]) (mem' := fun _ => [(1, .cells ((fr1 0).x) 23 [.int .i64 a0.Unit, .int .i64 a0.Count, .int .i64 a0.Size]), (2, o3 x20 x21 y18)]) (RunsTo.mk [] [2, 5, 6, 7, 28, 29, 30] [1, 2] (fun _ => []) (fun _ => by kernel_rfl) (fun _ => trivial)) ?_
    intro _
    refine GS.block ?_
    refine GS.loop ?_
    refine GS.know (p := y18.length ≤ x21) (fun w hw => by first | (have h := (hw.ok 2 _ rfl).1.1; rw [List.length_map] at h; exact h) | simpa using (hw.ok 2 _ rfl).1.1) (fun k25 => ?_)
    refine grd_elim hm (fun g56 hm => ?_)
    refine GS.rekey (env' := [(2, .pointer (some ⟨(fr1 0).x, 0, none⟩)), (5, .int .i64 (IntKind.i64.wrap (Int.tmod a1 20000))), (6, .slice x20 y18.length x21), (7, .int .i64 0), (28, .slice x20 y18.length x21), (29, .int .i64 ((y18.length : Nat) : Int)), (30, .int .i64 0)]) (mem' := [(1, .cells ((fr1 0).x) 23 [.int .i64 a0.Unit, .int .i64 a0.Count, .int .i64 a0.Size]), (2, o3 x20 x21 y18)]) [2, 5, 6, 7, 28, 29, 30] [(1, 1), (2, 2)] (by kernel_rfl) (by kernel_rfl) rfl ?_
    refine loopL_elim hm (fun st76 fn77 hst78 hfn79 hm => ?_)
    refine GS.loopInv (ι := List Int × Int × Nat) (I := fun ⟨rs74, v7_1, v30_1⟩ => y18.drop v30_1 = rs74 ∧ loopL st76 fn77 rs74 v30_1 v7_1 = some y) (μ := fun ⟨rs74, v7_1, v30_1⟩ => rs74.length) (E := fun ⟨rs74, v7_1, v30_1⟩ => [(2, .pointer (some ⟨(fr1 0).x, 0, none⟩)), (5, .int .i64 (IntKind.i64.wrap (Int.tmod a1 20000))), (6, .slice x20 y18.length x21), (7, .int .i64 v7_1), (28, .slice x20 y18.length x21), (29, .int .i64 ((y18.length : Nat) : Int)), (30, .int .i64 ((v30_1 : Nat) : Int))]) (M := fun ⟨rs74, v7_1, v30_1⟩ => [(1, .cells ((fr1 0).x) 23 [.int .i64 a0.Unit, .int .i64 a0.Count, .int .i64 a0.Size]), (2, o3 x20 x21 y18)]) ?_ ⟨y18, 0, 0⟩ ⟨List.drop_zero .., hm⟩
    rintro ⟨rs74, v7_1, v30_1⟩ ⟨hd55, hm⟩ ih75
    cases rs74 with
    | nil =>
      replace hm := (hfn79 _ _).symm.trans hm
      try dsimp only at hm
      refine GS.seq ?_
      refine GS.region (env' := fun _ => [(2, .pointer (some ⟨(fr1 0).x, 0, none⟩)), (5, .int .i64 (IntKind.i64.wrap (Int.tmod a1 20000))), (6, .slice x20 y18.length x21), (7, .int .i64 v7_1), (28, .slice x20 y18.length x21), (29, .int .i64 ((y18.length : Nat) : Int)), (30, .int .i64 ((v30_1 : Nat) : Int)), (31, .bool (decide (((v30_1 : Nat) : Int) < ((y18.length : Nat) : Int))))]) (mem' := fun _ => [(1, .cells ((fr1 0).x) 23 [.int .i64 a0.Unit, .int .i64 a0.Count, .int .i64 a0.Size]), (2, o3 x20 x21 y18)]) (RunsTo.mk [] [2, 5, 6, 7, 28, 29, 30, 31] [1, 2] (fun _ => []) (fun _ => by kernel_rfl) (fun _ => trivial)) ?_
      intro _
      refine GS.seq ?_
      refine GS.cond (t := decide (((v30_1 : Nat) : Int) < ((y18.length : Nat) : Int))) rfl rfl (fun h72 => absb h72 (drop_dec0 hd55)) (fun _ => ?_)
      refine GS.exit rfl ?_
      refine GS.seq ?_
      refine grd_elim hm (fun g81 hm => ?_)
      refine grd_elim hm (fun g82 hm => ?_)
      refine grd_elim hm (fun g83 hm => ?_)
      refine grd_elim hm (fun g84 hm => ?_)
      refine GS.region (env' := fun _ => [(2, .pointer (some ⟨(fr1 0).x, 0, none⟩)), (5, .int .i64 (IntKind.i64.wrap (Int.tmod a1 20000))), (6, .slice x20 y18.length x21), (7, .int .i64 v7_1), (10, .int .i64 ((Int.tdiv (IntKind.i64.wrap (Int.tmod a1 20000)) (a0.Size * a0.Count)) * a0.Count))]) (mem' := fun _ => [(1, .cells ((fr1 0).x) 23 [.int .i64 a0.Unit, .int .i64 a0.Count, .int .i64 a0.Size]), (2, o3 x20 x21 y18)]) (RunsTo.mkd [(2, { act := .load 1 0 0 [] }), (4, { act := .load 1 0 0 [] }), (5, { sp := some (.int .i64 (a0.Size * a0.Count)) }), (6, { act := .div, sp := some (.int .i64 (Int.tdiv (IntKind.i64.wrap (Int.tmod a1 20000)) (a0.Size * a0.Count))) }), (8, { act := .load 1 0 0 [] }), (9, { sp := some (.int .i64 ((Int.tdiv (IntKind.i64.wrap (Int.tmod a1 20000)) (a0.Size * a0.Count)) * a0.Count)) })] [2, 5, 6, 7, 10] [1, 2] (fun _ => [(fr1 0).x = (fr1 0).x, (fr1 0).x = (fr1 0).x, ((.int .i64 (IntKind.i64.wrap (a0.Size * a0.Count))) : Value) = .int .i64 (a0.Size * a0.Count), (a0.Size * a0.Count) ≠ 0, ((.int .i64 (IntKind.i64.wrap (Int.tdiv (IntKind.i64.wrap (Int.tmod a1 20000)) (a0.Size * a0.Count)))) : Value) = .int .i64 (Int.tdiv (IntKind.i64.wrap (Int.tmod a1 20000)) (a0.Size * a0.Count)), (fr1 0).x = (fr1 0).x, ((.int .i64 (IntKind.i64.wrap ((Int.tdiv (IntKind.i64.wrap (Int.tmod a1 20000)) (a0.Size * a0.Count)) * a0.Count))) : Value) = .int .i64 ((Int.tdiv (IntKind.i64.wrap (Int.tmod a1 20000)) (a0.Size * a0.Count)) * a0.Count)]) (by kernel_rfl) (by kernel_rfl) (fun _ => by kernel_rfl) (fun _ => ⟨rfl, rfl, I64.w g81, g82, I64.w g83, rfl, I64.w g84, trivial⟩)) ?_
      intro _
      refine GS.seq ?_
      refine GS.seq ?_
      refine GS.region (env' := fun _ => [(2, .pointer (some ⟨(fr1 0).x, 0, none⟩)), (5, .int .i64 (IntKind.i64.wrap (Int.tmod a1 20000))), (6, .slice x20 y18.length x21), (7, .int .i64 v7_1), (10, .int .i64 ((Int.tdiv (IntKind.i64.wrap (Int.tmod a1 20000)) (a0.Size * a0.Count)) * a0.Count)), (11, .int .i64 0)]) (mem' := fun _ => [(1, .cells ((fr1 0).x) 23 [.int .i64 a0.Unit, .int .i64 a0.Count, .int .i64 a0.Size]), (2, o3 x20 x21 y18)]) (RunsTo.mk [] [2, 5, 6, 7, 10, 11] [1, 2] (fun _ => []) (fun _ => by kernel_rfl) (fun _ => trivial)) ?_
      intro _
      refine GS.block ?_
      refine GS.loop ?_
      refine grd_elim hm (fun g110 hm => ?_)
      refine GS.rekey (env' := [(2, .pointer (some ⟨(fr1 0).x, 0, none⟩)), (5, .int .i64 (IntKind.i64.wrap (Int.tmod a1 20000))), (6, .slice x20 y18.length x21), (7, .int .i64 v7_1), (10, .int .i64 ((Int.tdiv (IntKind.i64.wrap (Int.tmod a1 20000)) (a0.Size * a0.Count)) * a0.Count)), (11, .int .i64 0)]) (mem' := [(1, .cells ((fr1 0).x) 23 [.int .i64 a0.Unit, .int .i64 a0.Count, .int .i64 a0.Size]), (2, o3 x20 x21 y18)]) [2, 5, 6, 7, 10, 11] [(1, 1), (2, 2)] (by kernel_rfl) (by kernel_rfl) rfl ?_
      refine loopC_elim hm (fun st127 fn128 hst129 hfn130 hm => ?_)
      refine GS.loopInv (ι := Nat × Nat) (I := fun ⟨rs125, v11_1⟩ => ((((Int.tdiv (IntKind.i64.wrap (Int.tmod a1 20000)) (a0.Size * a0.Count)) * a0.Count)) - ((v11_1 : Nat) : Int) : Int).toNat = rs125 ∧ loopC st127 fn128 rs125 v11_1 () = some y) (μ := fun ⟨rs125, v11_1⟩ => rs125) (E := fun ⟨rs125, v11_1⟩ => [(2, .pointer (some ⟨(fr1 0).x, 0, none⟩)), (5, .int .i64 (IntKind.i64.wrap (Int.tmod a1 20000))), (6, .slice x20 y18.length x21), (7, .int .i64 v7_1), (10, .int .i64 ((Int.tdiv (IntKind.i64.wrap (Int.tmod a1 20000)) (a0.Size * a0.Count)) * a0.Count)), (11, .int .i64 ((v11_1 : Nat) : Int))]) (M := fun ⟨rs125, v11_1⟩ => [(1, .cells ((fr1 0).x) 23 [.int .i64 a0.Unit, .int .i64 a0.Count, .int .i64 a0.Size]), (2, o3 x20 x21 y18)]) ?_ ⟨(Int.toNat (((Int.tdiv (IntKind.i64.wrap (Int.tmod a1 20000)) (a0.Size * a0.Count)) * a0.Count) - ((0 : Nat) : Int))), 0⟩ ⟨rfl, hm⟩
      rintro ⟨rs125, v11_1⟩ ⟨hd109, hm⟩ ih126
      cases rs125 with
      | zero =>
        replace hm := (hfn130 _ _).symm.trans hm
        try dsimp only at hm
        refine GS.seq ?_
        refine GS.seq ?_
        refine GS.region (env' := fun _ => [(2, .pointer (some ⟨(fr1 0).x, 0, none⟩)), (5, .int .i64 (IntKind.i64.wrap (Int.tmod a1 20000))), (6, .slice x20 y18.length x21), (7, .int .i64 v7_1), (10, .int .i64 ((Int.tdiv (IntKind.i64.wrap (Int.tmod a1 20000)) (a0.Size * a0.Count)) * a0.Count)), (11, .int .i64 ((v11_1 : Nat) : Int)), (58, .bool (decide (((v11_1 : Nat) : Int) < ((Int.tdiv (IntKind.i64.wrap (Int.tmod a1 20000)) (a0.Size * a0.Count)) * a0.Count))))]) (mem' := fun _ => [(1, .cells ((fr1 0).x) 23 [.int .i64 a0.Unit, .int .i64 a0.Count, .int .i64 a0.Size]), (2, o3 x20 x21 y18)]) (RunsTo.mk [] [2, 5, 6, 7, 10, 11, 58] [1, 2] (fun _ => []) (fun _ => by kernel_rfl) (fun _ => trivial)) ?_
        intro _
        refine GS.cond (t := decide (((v11_1 : Nat) : Int) < ((Int.tdiv (IntKind.i64.wrap (Int.tmod a1 20000)) (a0.Size * a0.Count)) * a0.Count))) rfl rfl (fun h123 => absb h123 (cnt0 hd109)) (fun _ => ?_)
        refine GS.exit rfl ?_
        refine GS.seq ?_
        refine br_elim hm (fun h132 hm => ?_) (fun h132 hm => ?_)
        · skip
          refine bnd_elim hm (fun y133 e134 hm => ?_)
          refine br_elim hm (fun h135 hm => ?_) (fun h135 hm => ?_)
          · skip
            refine br_elim hm (fun h136 hm => ?_) (fun h136 hm => ?_)
            · skip
              refine bnd_elim hm (fun y137 e138 hm => ?_)
              refine GS.region (env' := fun _ => [(4, .bool y137)]) (mem' := fun _ => []) (RunsTo.mk [(3, { sp := some (.bool true) }), (4, { act := .load 1 0 0 [] }), (6, { act := .call [] (.int .i64 y133) }), (11, { sp := some (.bool true) }), (19, { sp := some (.bool true) }), (20, { act := .call [] (.bool y137) })] [4] [] (fun _ => [((.bool (v7_1 == (IntKind.i64.wrap (Int.tmod a1 20000)))) : Value) = .bool true, (fr1 0).x = (fr1 0).x, CallOK Tryd.prog 23 #[.agg #[.int .i64 a0.Unit, .int .i64 a0.Count, .int .i64 a0.Size], .int .i64 (IntKind.i64.wrap (Int.tmod a1 20000))] (.int .i64 y133) [], ((.bool (y133 == ((y18.length : Nat) : Int))) : Value) = .bool true, ((.bool ((decide ((IntKind.i64.wrap (Int.tmod a1 20000)) > 0)) == (decide (((y18.length : Nat) : Int) > 0)))) : Value) = .bool true, CallOK Tryd.prog 16 #[] (.bool y137) []]) (fun _ => by kernel_rfl) (fun _ => ⟨bool_eq h132, rfl, (w_stripe_Objects F a0 (IntKind.i64.wrap (Int.tmod a1 20000)) e134).ok trivial, bool_eq h135, bool_eq h136, (w_tholelaw24_lives F  e138).ok trivial, trivial⟩)) ?_
              intro _
              have hy := Option.some.inj hm
              subst hy
              refine GS.ret (fn := Tryd.f6) [0] [.bool y137] [] rfl Tryd.func6 (by kernel_rfl) trivial (fun w' hs => ?_)
              exact ⟨(), rfl, hs.turnedG (ks := []) rfl rfl⟩
            · skip
              refine GS.region (env' := fun _ => [(4, .bool false)]) (mem' := fun _ => []) (RunsTo.mk [(3, { sp := some (.bool true) }), (4, { act := .load 1 0 0 [] }), (6, { act := .call [] (.int .i64 y133) }), (11, { sp := some (.bool true) }), (19, { sp := some (.bool false) })] [4] [] (fun _ => [((.bool (v7_1 == (IntKind.i64.wrap (Int.tmod a1 20000)))) : Value) = .bool true, (fr1 0).x = (fr1 0).x, CallOK Tryd.prog 23 #[.agg #[.int .i64 a0.Unit, .int .i64 a0.Count, .int .i64 a0.Size], .int .i64 (IntKind.i64.wrap (Int.tmod a1 20000))] (.int .i64 y133) [], ((.bool (y133 == ((y18.length : Nat) : Int))) : Value) = .bool true, ((.bool ((decide ((IntKind.i64.wrap (Int.tmod a1 20000)) > 0)) == (decide (((y18.length : Nat) : Int) > 0)))) : Value) = .bool false]) (fun _ => by kernel_rfl) (fun _ => ⟨bool_eq h132, rfl, (w_stripe_Objects F a0 (IntKind.i64.wrap (Int.tmod a1 20000)) e134).ok trivial, bool_eq h135, bool_eq h136, trivial⟩)) ?_
              intro _
              have hy := Option.some.inj hm
              subst hy
              refine GS.ret (fn := Tryd.f6) [0] [.bool false] [] rfl Tryd.func6 (by kernel_rfl) trivial (fun w' hs => ?_)
              exact ⟨(), rfl, hs.turnedG (ks := []) rfl rfl⟩
          · skip
            refine GS.region (env' := fun _ => [(4, .bool false)]) (mem' := fun _ => []) (RunsTo.mk [(3, { sp := some (.bool true) }), (4, { act := .load 1 0 0 [] }), (6, { act := .call [] (.int .i64 y133) }), (11, { sp := some (.bool false) })] [4] [] (fun _ => [((.bool (v7_1 == (IntKind.i64.wrap (Int.tmod a1 20000)))) : Value) = .bool true, (fr1 0).x = (fr1 0).x, CallOK Tryd.prog 23 #[.agg #[.int .i64 a0.Unit, .int .i64 a0.Count, .int .i64 a0.Size], .int .i64 (IntKind.i64.wrap (Int.tmod a1 20000))] (.int .i64 y133) [], ((.bool (y133 == ((y18.length : Nat) : Int))) : Value) = .bool false]) (fun _ => by kernel_rfl) (fun _ => ⟨bool_eq h132, rfl, (w_stripe_Objects F a0 (IntKind.i64.wrap (Int.tmod a1 20000)) e134).ok trivial, bool_eq h135, trivial⟩)) ?_
            intro _
            have hy := Option.some.inj hm
            subst hy
            refine GS.ret (fn := Tryd.f6) [0] [.bool false] [] rfl Tryd.func6 (by kernel_rfl) trivial (fun w' hs => ?_)
            exact ⟨(), rfl, hs.turnedG (ks := []) rfl rfl⟩
        · skip
          refine GS.region (env' := fun _ => [(4, .bool false)]) (mem' := fun _ => []) (RunsTo.mk [(3, { sp := some (.bool false) })] [4] [] (fun _ => [((.bool (v7_1 == (IntKind.i64.wrap (Int.tmod a1 20000)))) : Value) = .bool false]) (fun _ => by kernel_rfl) (fun _ => ⟨bool_eq h132, trivial⟩)) ?_
          intro _
          have hy := Option.some.inj hm
          subst hy
          refine GS.ret (fn := Tryd.f6) [0] [.bool false] [] rfl Tryd.func6 (by kernel_rfl) trivial (fun w' hs => ?_)
          exact ⟨(), rfl, hs.turnedG (ks := []) rfl rfl⟩
      | succ rs125 =>
        replace hm := (hst129 _ _ _).symm.trans hm
        try dsimp only at hm
        refine GS.seq ?_
        refine GS.seq ?_
        refine GS.region (env' := fun _ => [(2, .pointer (some ⟨(fr1 0).x, 0, none⟩)), (5, .int .i64 (IntKind.i64.wrap (Int.tmod a1 20000))), (6, .slice x20 y18.length x21), (7, .int .i64 v7_1), (10, .int .i64 ((Int.tdiv (IntKind.i64.wrap (Int.tmod a1 20000)) (a0.Size * a0.Count)) * a0.Count)), (11, .int .i64 ((v11_1 : Nat) : Int)), (58, .bool (decide (((v11_1 : Nat) : Int) < ((Int.tdiv (IntKind.i64.wrap (Int.tmod a1 20000)) (a0.Size * a0.Count)) * a0.Count))))]) (mem' := fun _ => [(1, .cells ((fr1 0).x) 23 [.int .i64 a0.Unit, .int .i64 a0.Count, .int .i64 a0.Size]), (2, o3 x20 x21 y18)]) (RunsTo.mk [] [2, 5, 6, 7, 10, 11, 58] [1, 2] (fun _ => []) (fun _ => by kernel_rfl) (fun _ => trivial)) ?_
        intro _
        refine GS.cond (t := decide (((v11_1 : Nat) : Int) < ((Int.tdiv (IntKind.i64.wrap (Int.tmod a1 20000)) (a0.Size * a0.Count)) * a0.Count))) rfl rfl (fun _ => ?_) (fun h112 => absb (cnt1 hd109) h112)
        refine GS.skip ?_
        refine GS.seq ?_
        refine GS.block ?_
        refine GS.seq ?_
        refine jn_elim hm (fun J116 hJ118 hm => ?_)
        refine GS.cut (ι := Bool) (I := fun (v73_3 : Bool) => J116 v73_3 = some y) (E := fun (v73_3 : Bool) => [(2, .pointer (some ⟨(fr1 0).x, 0, none⟩)), (5, .int .i64 (IntKind.i64.wrap (Int.tmod a1 20000))), (6, .slice x20 y18.length x21), (7, .int .i64 v7_1), (10, .int .i64 ((Int.tdiv (IntKind.i64.wrap (Int.tmod a1 20000)) (a0.Size * a0.Count)) * a0.Count)), (11, .int .i64 ((v11_1 : Nat) : Int)), (73, .bool v73_3)]) (M := fun (v73_3 : Bool) => [(1, .cells ((fr1 0).x) 23 [.int .i64 a0.Unit, .int .i64 a0.Count, .int .i64 a0.Size]), (2, o3 x20 x21 y18)]) ?_ ?_
        rotate_left
        · intro H117
          refine br_elim hm (fun h114 hm => ?_) (fun h114 hm => ?_)
          · skip
            refine GS.region (env' := fun _ => [(2, .pointer (some ⟨(fr1 0).x, 0, none⟩)), (5, .int .i64 (IntKind.i64.wrap (Int.tmod a1 20000))), (6, .slice x20 y18.length x21), (7, .int .i64 v7_1), (10, .int .i64 ((Int.tdiv (IntKind.i64.wrap (Int.tmod a1 20000)) (a0.Size * a0.Count)) * a0.Count)), (11, .int .i64 ((v11_1 : Nat) : Int)), (73, .bool true)]) (mem' := fun _ => [(1, .cells ((fr1 0).x) 23 [.int .i64 a0.Unit, .int .i64 a0.Count, .int .i64 a0.Size]), (2, o3 x20 x21 y18)]) (RunsTo.mkd [(4, { sp := some (.bool true) })] [2, 5, 6, 7, 10, 11, 73] [1, 2] (fun _ => [((.bool (decide (((v11_1 : Nat) : Int) ≥ ((y18.length : Nat) : Int)))) : Value) = .bool true]) (by kernel_rfl) (by kernel_rfl) (fun _ => by kernel_rfl) (fun _ => ⟨bool_eq h114, trivial⟩)) ?_
            intro _
            refine GS.rekey (env' := [(2, .pointer (some ⟨(fr1 0).x, 0, none⟩)), (5, .int .i64 (IntKind.i64.wrap (Int.tmod a1 20000))), (6, .slice x20 y18.length x21), (7, .int .i64 v7_1), (10, .int .i64 ((Int.tdiv (IntKind.i64.wrap (Int.tmod a1 20000)) (a0.Size * a0.Count)) * a0.Count)), (11, .int .i64 ((v11_1 : Nat) : Int)), (73, .bool true)]) (mem' := [(1, .cells ((fr1 0).x) 23 [.int .i64 a0.Unit, .int .i64 a0.Count, .int .i64 a0.Size]), (2, o3 x20 x21 y18)]) [2, 5, 6, 7, 10, 11, 73] [(1, 1), (2, 2)] (by kernel_rfl) (by kernel_rfl) rfl ?_
            exact H117 true hm
          · skip
            refine grd_elim hm (fun g115 hm => ?_)
            refine GS.region (env' := fun _ => [(2, .pointer (some ⟨(fr1 0).x, 0, none⟩)), (5, .int .i64 (IntKind.i64.wrap (Int.tmod a1 20000))), (6, .slice x20 y18.length x21), (7, .int .i64 v7_1), (10, .int .i64 ((Int.tdiv (IntKind.i64.wrap (Int.tmod a1 20000)) (a0.Size * a0.Count)) * a0.Count)), (11, .int .i64 ((v11_1 : Nat) : Int)), (73, .bool ((y18.getD v11_1 0) != a0.Size))]) (mem' := fun _ => [(1, .cells ((fr1 0).x) 23 [.int .i64 a0.Unit, .int .i64 a0.Count, .int .i64 a0.Size]), (2, o3 x20 x21 y18)]) (RunsTo.mkd [(4, { sp := some (.bool false) }), (7, { act := .idx 2 v11_1 }), (8, { act := .load 2 v11_1 0 [.int .i64 (y18.getD v11_1 0)] }), (10, { act := .load 1 0 0 [] })] [2, 5, 6, 7, 10, 11, 73] [1, 2] (fun _ => [((.bool (decide (((v11_1 : Nat) : Int) ≥ ((y18.length : Nat) : Int)))) : Value) = .bool false, x20 = x20, y18.length = (List.map rI y18).length, (((v11_1 : Nat) : Int) : Int) = ((v11_1 : Nat) : Int), v11_1 < y18.length, blk x20 = blk x20, offs x20 + v11_1 * 1 = offs x20 + (v11_1 * 1 + 0), (List.map rI y18)[v11_1]? = some [.int .i64 (y18.getD v11_1 0)], (fr1 0).x = (fr1 0).x]) (by kernel_rfl) (by kernel_rfl) (fun _ => by kernel_rfl) (fun _ => ⟨bool_eq h114, rfl, mlen rI y18, rfl, g115, rfl, rfl, map_at rI 0 g115, rfl, trivial⟩)) ?_
            intro _
            refine GS.rekey (env' := [(2, .pointer (some ⟨(fr1 0).x, 0, none⟩)), (5, .int .i64 (IntKind.i64.wrap (Int.tmod a1 20000))), (6, .slice x20 y18.length x21), (7, .int .i64 v7_1), (10, .int .i64 ((Int.tdiv (IntKind.i64.wrap (Int.tmod a1 20000)) (a0.Size * a0.Count)) * a0.Count)), (11, .int .i64 ((v11_1 : Nat) : Int)), (73, .bool ((y18.getD v11_1 0) != a0.Size))]) (mem' := [(1, .cells ((fr1 0).x) 23 [.int .i64 a0.Unit, .int .i64 a0.Count, .int .i64 a0.Size]), (2, o3 x20 x21 y18)]) [2, 5, 6, 7, 10, 11, 73] [(1, 1), (2, 2)] (by kernel_rfl) (by kernel_rfl) rfl ?_
            exact H117 ((y18.getD v11_1 0) != a0.Size) hm
        · rintro v73_3 hm
          replace hm := (hJ118 _).symm.trans hm
          try dsimp only at hm
          refine GS.cond (t := v73_3) rfl rfl (fun h119 => ?_) (fun h119 => ?_)
          · replace hm := br_t h119 hm
            refine GS.seq ?_
            refine GS.region (env' := fun _ => [(4, .bool false)]) (mem' := fun _ => []) (RunsTo.mk [] [4] [] (fun _ => []) (fun _ => by kernel_rfl) (fun _ => trivial)) ?_
            intro _
            have hy := Option.some.inj hm
            subst hy
            refine GS.ret (fn := Tryd.f6) [0] [.bool false] [] rfl Tryd.func6 (by kernel_rfl) trivial (fun w' hs => ?_)
            exact ⟨(), rfl, hs.turnedG (ks := []) rfl rfl⟩
          · replace hm := br_f h119 hm
            refine GS.skip ?_
            refine GS.inBlock ?_
            refine GS.region (env' := fun _ => [(2, .pointer (some ⟨(fr1 0).x, 0, none⟩)), (5, .int .i64 (IntKind.i64.wrap (Int.tmod a1 20000))), (6, .slice x20 y18.length x21), (7, .int .i64 v7_1), (10, .int .i64 ((Int.tdiv (IntKind.i64.wrap (Int.tmod a1 20000)) (a0.Size * a0.Count)) * a0.Count)), (11, .int .i64 ((v11_1 + 1 : Nat) : Int))]) (mem' := fun _ => [(1, .cells ((fr1 0).x) 23 [.int .i64 a0.Unit, .int .i64 a0.Count, .int .i64 a0.Size]), (2, o3 x20 x21 y18)]) (RunsTo.mk [(1, { sp := some (.int .i64 ((v11_1 + 1 : Nat) : Int)) })] [2, 5, 6, 7, 10, 11] [1, 2] (fun _ => [((.int .i64 (IntKind.i64.wrap (((v11_1 : Nat) : Int) + 1))) : Value) = .int .i64 ((v11_1 + 1 : Nat) : Int)]) (fun _ => by kernel_rfl) (fun _ => ⟨natwB (cnt1 hd109) g110, trivial⟩)) ?_
            intro _
            refine GS.inLoop ?_
            refine GS.rekey (env' := [(2, .pointer (some ⟨(fr1 0).x, 0, none⟩)), (5, .int .i64 (IntKind.i64.wrap (Int.tmod a1 20000))), (6, .slice x20 y18.length x21), (7, .int .i64 v7_1), (10, .int .i64 ((Int.tdiv (IntKind.i64.wrap (Int.tmod a1 20000)) (a0.Size * a0.Count)) * a0.Count)), (11, .int .i64 ((v11_1 + 1 : Nat) : Int))]) (mem' := [(1, .cells ((fr1 0).x) 23 [.int .i64 a0.Unit, .int .i64 a0.Count, .int .i64 a0.Size]), (2, o3 x20 x21 y18)]) [2, 5, 6, 7, 10, 11] [(1, 1), (2, 2)] (by kernel_rfl) (by kernel_rfl) rfl ?_
            exact ih126 ⟨rs125, v11_1 + 1⟩ ⟨cntN hd109, hm⟩ (Nat.lt_succ_self _)
    | cons x57 rs74 =>
      replace hm := (hst78 _ _ _ _).symm.trans hm
      try dsimp only at hm
      refine GS.seq ?_
      refine GS.region (env' := fun _ => [(2, .pointer (some ⟨(fr1 0).x, 0, none⟩)), (5, .int .i64 (IntKind.i64.wrap (Int.tmod a1 20000))), (6, .slice x20 y18.length x21), (7, .int .i64 v7_1), (28, .slice x20 y18.length x21), (29, .int .i64 ((y18.length : Nat) : Int)), (30, .int .i64 ((v30_1 : Nat) : Int)), (31, .bool (decide (((v30_1 : Nat) : Int) < ((y18.length : Nat) : Int))))]) (mem' := fun _ => [(1, .cells ((fr1 0).x) 23 [.int .i64 a0.Unit, .int .i64 a0.Count, .int .i64 a0.Size]), (2, o3 x20 x21 y18)]) (RunsTo.mk [] [2, 5, 6, 7, 28, 29, 30, 31] [1, 2] (fun _ => []) (fun _ => by kernel_rfl) (fun _ => trivial)) ?_
      intro _
      refine GS.seq ?_
      refine GS.cond (t := decide (((v30_1 : Nat) : Int) < ((y18.length : Nat) : Int))) rfl rfl (fun _ => ?_) (fun h59 => absb (drop_dec hd55) h59)
      refine GS.skip ?_
      refine GS.seq ?_
      refine GS.block ?_
      refine GS.seq ?_
      refine GS.region (env' := fun _ => [(2, .pointer (some ⟨(fr1 0).x, 0, none⟩)), (5, .int .i64 (IntKind.i64.wrap (Int.tmod a1 20000))), (6, .slice x20 y18.length x21), (7, .int .i64 v7_1), (9, .int .i64 x57), (28, .slice x20 y18.length x21), (29, .int .i64 ((y18.length : Nat) : Int)), (30, .int .i64 ((v30_1 : Nat) : Int))]) (mem' := fun _ => [(1, .cells ((fr1 0).x) 23 [.int .i64 a0.Unit, .int .i64 a0.Count, .int .i64 a0.Size]), (2, o3 x20 x21 y18)]) (RunsTo.mk [(0, { act := .idx 2 v30_1 }), (1, { act := .load 2 v30_1 0 [.int .i64 x57] })] [2, 5, 6, 7, 9, 28, 29, 30] [1, 2] (fun _ => [x20 = x20, y18.length = (List.map rI y18).length, (((v30_1 : Nat) : Int) : Int) = ((v30_1 : Nat) : Int), v30_1 < y18.length, blk x20 = blk x20, offs x20 + v30_1 * 1 = offs x20 + (v30_1 * 1 + 0), (List.map rI y18)[v30_1]? = some [.int .i64 x57]]) (fun _ => by kernel_rfl) (fun _ => ⟨rfl, mlen rI y18, rfl, (drop_lt hd55), rfl, rfl, map_drop rI hd55, trivial⟩)) ?_
      intro _
      refine GS.seq ?_
      refine GS.seq ?_
      refine jn_elim hm (fun J63 hJ65 hm => ?_)
      refine GS.cut (ι := Bool) (I := fun (v41_3 : Bool) => J63 v41_3 = some y) (E := fun (v41_3 : Bool) => [(2, .pointer (some ⟨(fr1 0).x, 0, none⟩)), (5, .int .i64 (IntKind.i64.wrap (Int.tmod a1 20000))), (6, .slice x20 y18.length x21), (7, .int .i64 v7_1), (9, .int .i64 x57), (28, .slice x20 y18.length x21), (29, .int .i64 ((y18.length : Nat) : Int)), (30, .int .i64 ((v30_1 : Nat) : Int)), (41, .bool v41_3)]) (M := fun (v41_3 : Bool) => [(1, .cells ((fr1 0).x) 23 [.int .i64 a0.Unit, .int .i64 a0.Count, .int .i64 a0.Size]), (2, o3 x20 x21 y18)]) ?_ ?_
      rotate_left
      · intro H64
        refine br_elim hm (fun h62 hm => ?_) (fun h62 hm => ?_)
        · skip
          refine GS.region (env' := fun _ => [(2, .pointer (some ⟨(fr1 0).x, 0, none⟩)), (5, .int .i64 (IntKind.i64.wrap (Int.tmod a1 20000))), (6, .slice x20 y18.length x21), (7, .int .i64 v7_1), (9, .int .i64 x57), (28, .slice x20 y18.length x21), (29, .int .i64 ((y18.length : Nat) : Int)), (30, .int .i64 ((v30_1 : Nat) : Int)), (41, .bool true)]) (mem' := fun _ => [(1, .cells ((fr1 0).x) 23 [.int .i64 a0.Unit, .int .i64 a0.Count, .int .i64 a0.Size]), (2, o3 x20 x21 y18)]) (RunsTo.mk [(2, { sp := some (.bool true) })] [2, 5, 6, 7, 9, 28, 29, 30, 41] [1, 2] (fun _ => [((.bool (decide (x57 < 0))) : Value) = .bool true]) (fun _ => by kernel_rfl) (fun _ => ⟨bool_eq h62, trivial⟩)) ?_
          intro _
          refine GS.rekey (env' := [(2, .pointer (some ⟨(fr1 0).x, 0, none⟩)), (5, .int .i64 (IntKind.i64.wrap (Int.tmod a1 20000))), (6, .slice x20 y18.length x21), (7, .int .i64 v7_1), (9, .int .i64 x57), (28, .slice x20 y18.length x21), (29, .int .i64 ((y18.length : Nat) : Int)), (30, .int .i64 ((v30_1 : Nat) : Int)), (41, .bool true)]) (mem' := [(1, .cells ((fr1 0).x) 23 [.int .i64 a0.Unit, .int .i64 a0.Count, .int .i64 a0.Size]), (2, o3 x20 x21 y18)]) [2, 5, 6, 7, 9, 28, 29, 30, 41] [(1, 1), (2, 2)] (by kernel_rfl) (by kernel_rfl) rfl ?_
          exact H64 true hm
        · skip
          refine GS.region (env' := fun _ => [(2, .pointer (some ⟨(fr1 0).x, 0, none⟩)), (5, .int .i64 (IntKind.i64.wrap (Int.tmod a1 20000))), (6, .slice x20 y18.length x21), (7, .int .i64 v7_1), (9, .int .i64 x57), (28, .slice x20 y18.length x21), (29, .int .i64 ((y18.length : Nat) : Int)), (30, .int .i64 ((v30_1 : Nat) : Int)), (41, .bool (decide (x57 > a0.Size)))]) (mem' := fun _ => [(1, .cells ((fr1 0).x) 23 [.int .i64 a0.Unit, .int .i64 a0.Count, .int .i64 a0.Size]), (2, o3 x20 x21 y18)]) (RunsTo.mk [(2, { sp := some (.bool false) }), (5, { act := .load 1 0 0 [] })] [2, 5, 6, 7, 9, 28, 29, 30, 41] [1, 2] (fun _ => [((.bool (decide (x57 < 0))) : Value) = .bool false, (fr1 0).x = (fr1 0).x]) (fun _ => by kernel_rfl) (fun _ => ⟨bool_eq h62, rfl, trivial⟩)) ?_
          intro _
          refine GS.rekey (env' := [(2, .pointer (some ⟨(fr1 0).x, 0, none⟩)), (5, .int .i64 (IntKind.i64.wrap (Int.tmod a1 20000))), (6, .slice x20 y18.length x21), (7, .int .i64 v7_1), (9, .int .i64 x57), (28, .slice x20 y18.length x21), (29, .int .i64 ((y18.length : Nat) : Int)), (30, .int .i64 ((v30_1 : Nat) : Int)), (41, .bool (decide (x57 > a0.Size)))]) (mem' := [(1, .cells ((fr1 0).x) 23 [.int .i64 a0.Unit, .int .i64 a0.Count, .int .i64 a0.Size]), (2, o3 x20 x21 y18)]) [2, 5, 6, 7, 9, 28, 29, 30, 41] [(1, 1), (2, 2)] (by kernel_rfl) (by kernel_rfl) rfl ?_
          exact H64 (decide (x57 > a0.Size)) hm
      · rintro v41_3 hm
        replace hm := (hJ65 _).symm.trans hm
        try dsimp only at hm
        refine GS.cond (t := v41_3) rfl rfl (fun h66 => ?_) (fun h66 => ?_)
        · replace hm := br_t h66 hm
          refine GS.seq ?_
          refine GS.region (env' := fun _ => [(4, .bool false)]) (mem' := fun _ => []) (RunsTo.mk [] [4] [] (fun _ => []) (fun _ => by kernel_rfl) (fun _ => trivial)) ?_
          intro _
          have hy := Option.some.inj hm
          subst hy
          refine GS.ret (fn := Tryd.f6) [0] [.bool false] [] rfl Tryd.func6 (by kernel_rfl) trivial (fun w' hs => ?_)
          exact ⟨(), rfl, hs.turnedG (ks := []) rfl rfl⟩
        · replace hm := br_f h66 hm
          refine GS.skip ?_
          refine grd_elim hm (fun g69 hm => ?_)
          refine GS.region (env' := fun _ => [(2, .pointer (some ⟨(fr1 0).x, 0, none⟩)), (5, .int .i64 (IntKind.i64.wrap (Int.tmod a1 20000))), (6, .slice x20 y18.length x21), (7, .int .i64 (v7_1 + x57)), (28, .slice x20 y18.length x21), (29, .int .i64 ((y18.length : Nat) : Int)), (30, .int .i64 ((v30_1 : Nat) : Int))]) (mem' := fun _ => [(1, .cells ((fr1 0).x) 23 [.int .i64 a0.Unit, .int .i64 a0.Count, .int .i64 a0.Size]), (2, o3 x20 x21 y18)]) (RunsTo.mk [(2, { sp := some (.int .i64 (v7_1 + x57)) })] [2, 5, 6, 7, 28, 29, 30] [1, 2] (fun _ => [((.int .i64 (IntKind.i64.wrap (v7_1 + x57))) : Value) = .int .i64 (v7_1 + x57)]) (fun _ => by kernel_rfl) (fun _ => ⟨I64.w g69, trivial⟩)) ?_
          intro _
          refine GS.inBlock ?_
          refine GS.region (env' := fun _ => [(2, .pointer (some ⟨(fr1 0).x, 0, none⟩)), (5, .int .i64 (IntKind.i64.wrap (Int.tmod a1 20000))), (6, .slice x20 y18.length x21), (7, .int .i64 (v7_1 + x57)), (28, .slice x20 y18.length x21), (29, .int .i64 ((y18.length : Nat) : Int)), (30, .int .i64 ((v30_1 + 1 : Nat) : Int))]) (mem' := fun _ => [(1, .cells ((fr1 0).x) 23 [.int .i64 a0.Unit, .int .i64 a0.Count, .int .i64 a0.Size]), (2, o3 x20 x21 y18)]) (RunsTo.mk [(0, { sp := some (.int .i64 ((v30_1 + 1 : Nat) : Int)) })] [2, 5, 6, 7, 28, 29, 30] [1, 2] (fun _ => [((.int .i64 (IntKind.i64.wrap (((v30_1 : Nat) : Int) + 1))) : Value) = .int .i64 ((v30_1 + 1 : Nat) : Int)]) (fun _ => by kernel_rfl) (fun _ => ⟨natw (drop_lt hd55) g56, trivial⟩)) ?_
          intro _
          refine GS.inLoop ?_
          refine GS.rekey (env' := [(2, .pointer (some ⟨(fr1 0).x, 0, none⟩)), (5, .int .i64 (IntKind.i64.wrap (Int.tmod a1 20000))), (6, .slice x20 y18.length x21), (7, .int .i64 (v7_1 + x57)), (28, .slice x20 y18.length x21), (29, .int .i64 ((y18.length : Nat) : Int)), (30, .int .i64 ((v30_1 + 1 : Nat) : Int))]) (mem' := [(1, .cells ((fr1 0).x) 23 [.int .i64 a0.Unit, .int .i64 a0.Count, .int .i64 a0.Size]), (2, o3 x20 x21 y18)]) [2, 5, 6, 7, 28, 29, 30] [(1, 1), (2, 2)] (by kernel_rfl) (by kernel_rfl) rfl ?_
          exact ih75 ⟨rs74, (v7_1 + x57), v30_1 + 1⟩ ⟨drop_next hd55, hm⟩ (Nat.lt_succ_self _)

end Go.Proofs.YtfdojammchbboaaDoor
