/-
  CHAPTER 24s: the functions do what their models say (7).
-/
import Derived.Test.YtfdojammchbboaaDoorM24s
import Derived.Test.YtfdojammchbboaaDoorW24sc
import Derived.Test.YtfdojammchbboaaDoorW24sd
import Derived.Test.YtfdojammchbboaaDoorW24se
import Derived.Test.YtfdojammchbboaaDoorW24sf
set_option linter.unusedVariables false
set_option linter.unusedSimpArgs false
set_option maxRecDepth 100000
namespace Go.Proofs.YtfdojammchbboaaDoor
open Go Go.RowKit Sx

theorem w_tholelaw24_StripeSplits (F : Nat) (a0 : S_stripe_Layout) (a1_o : Option Addr) (a1_c : Nat) (a1 : List UInt8) (a2_o : Option Addr) (a2_c : Nat) (a2_h : Hds) (a2 : List (List UInt8)) {y : Bool} (hm : m_tholelaw24_StripeSplits F a0 a1 a2 = some y) : CallG Tryd.prog 7 #[.agg #[.int .i64 a0.Unit, .int .i64 a0.Count, .int .i64 a0.Size], .slice a1_o a1.length a1_c, .slice a2_o a2.length a2_c] (X := Unit) (fun (_ : Unit) => .bool y) [] [r5 a1_o a1, .rd a2_o 1 (nrows nR54 a2_h a2), Ent.all (nins nJ54 a2_h a2)] (fun (_ : Unit) => []) := by
  intro w hg
  rw [m_tholelaw24_StripeSplits] at hm
  refine GS.start (S := mayT [] [r5 a1_o a1, .rd a2_o 1 (nrows nR54 a2_h a2), Ent.all (nins nJ54 a2_h a2)]) (mem := [(1, r5 a1_o a1), (2, .rd a2_o 1 (nrows nR54 a2_h a2)), (3, Ent.all (nins nJ54 a2_h a2))]) Tryd.func7 rfl Tryd.ntmps7 (Nat.le_of_ble_eq_true rfl) (hg.start rfl) ?_
  refine GS.conv (env' := [(0, .agg #[.int .i64 a0.Unit, .int .i64 a0.Count, .int .i64 a0.Size]), (1, .slice a1_o a1.length a1_c), (2, .slice a2_o a2.length a2_c)]) rfl rfl ?_
  refine GS.seq ?_
  refine GS.region (env' := fun fr1 => [(1, .slice a1_o a1.length a1_c), (2, .slice a2_o a2.length a2_c), (3, .pointer (some ⟨(fr1 0).x, 0, none⟩))]) (mem' := fun fr1 => [(1, r5 a1_o a1), (2, .rd a2_o 1 (nrows nR54 a2_h a2)), (3, Ent.all (nins nJ54 a2_h a2)), (4, .cells ((fr1 0).x) 23 [.int .i64 a0.Unit, .int .i64 a0.Count, .int .i64 a0.Size])]) (RunsTo.mk [(0, { act := .new .var, key := some 4 })] [1, 2, 3] [1, 2, 3, 4] (fun fr1 => []) (fun fr1 => by kernel_rfl) (fun fr1 => trivial)) ?_
  intro fr1
  refine GS.seq ?_
  refine GS.seq ?_
  refine GS.region (env' := fun _ => [(1, .slice a1_o a1.length a1_c), (2, .slice a2_o a2.length a2_c), (3, .pointer (some ⟨(fr1 0).x, 0, none⟩)), (17, .bool (decide (((a1.length : Nat) : Int) > 70000)))]) (mem' := fun _ => [(1, r5 a1_o a1), (2, .rd a2_o 1 (nrows nR54 a2_h a2)), (3, Ent.all (nins nJ54 a2_h a2)), (4, .cells ((fr1 0).x) 23 [.int .i64 a0.Unit, .int .i64 a0.Count, .int .i64 a0.Size])]) (RunsTo.mk [] [1, 2, 3, 17] [1, 2, 3, 4] (fun _ => []) (fun _ => by kernel_rfl) (fun _ => trivial)) ?_
  intro _
  refine GS.cond (t := decide (((a1.length : Nat) : Int) > 70000)) rfl rfl (fun h3 => ?_) (fun h3 => ?_)
  · replace hm := br_t h3 hm
    refine GS.seq ?_
    refine bnd_elim hm (fun y5 e6 hm => ?_)
    refine GS.region (env' := fun _ => [(6, .bool y5)]) (mem' := fun _ => []) (RunsTo.mk [(0, { act := .call [] (.bool y5) })] [6] [] (fun _ => [CallOK Tryd.prog 16 #[] (.bool y5) []]) (fun _ => by kernel_rfl) (fun _ => ⟨(w_tholelaw24_lives F  e6).ok trivial, trivial⟩)) ?_
    intro _
    have hy := Option.some.inj hm
    subst hy
    refine GS.ret (fn := Tryd.f7) [0] [.bool y5] [] rfl Tryd.func7 (by kernel_rfl) trivial (fun w' hs => ?_)
    exact ⟨(), rfl, hs.turnedG (ks := []) rfl rfl⟩
  · replace hm := br_f h3 hm
    refine GS.skip ?_
    refine GS.seq ?_
    refine bnd_elim hm (fun y8 e9 hm => ?_)
    refine GS.region (env' := fun fr7 => [(1, .slice a1_o a1.length a1_c), (2, .slice a2_o a2.length a2_c), (3, .pointer (some ⟨(fr1 0).x, 0, none⟩)), (7, .pointer (some ⟨(fr7 2).x, 0, none⟩))]) (mem' := fun fr7 => [(1, r5 a1_o a1), (2, .rd a2_o 1 (nrows nR54 a2_h a2)), (3, Ent.all (nins nJ54 a2_h a2)), (4, .cells ((fr1 0).x) 23 [.int .i64 a0.Unit, .int .i64 a0.Count, .int .i64 a0.Size]), (5, .cells ((fr7 2).x) 24 [.int .i64 y8.Unit, .int .i64 y8.Count, .int .i64 y8.Size])]) (RunsTo.mk [(0, { act := .load 4 0 0 [] }), (1, { act := .call [] (.agg #[.int .i64 y8.Unit, .int .i64 y8.Count, .int .i64 y8.Size]) }), (2, { act := .new .var, key := some 5 }), (3, { act := .store 0 0 [], key := some 5 })] [1, 2, 3, 7] [1, 2, 3, 4, 5] (fun fr7 => [(fr1 0).x = (fr1 0).x, CallOK Tryd.prog 9 #[.agg #[.int .i64 a0.Unit, .int .i64 a0.Count, .int .i64 a0.Size]] (.agg #[.int .i64 y8.Unit, .int .i64 y8.Count, .int .i64 y8.Size]) [], (fr7 2).x = (fr7 2).x, ((.agg #[.int .i64 y8.Unit, .int .i64 y8.Count, .int .i64 y8.Size]) : Value).cells.toList.all Value.oneCell' = true]) (fun fr7 => by kernel_rfl) (fun fr7 => ⟨rfl, (w_tholelaw24_plain F a0 e9).ok trivial, rfl, rfl, trivial⟩)) ?_
    intro fr7
    refine GS.seq ?_
    refine bnd_elim hm (fun y11 e12 hm => ?_)
    refine GS.open_ ?_
    refine GR.run (i := 0) 1 (env' := fun _ => [(1, .slice a1_o a1.length a1_c), (2, .slice a2_o a2.length a2_c), (3, .pointer (some ⟨(fr1 0).x, 0, none⟩)), (7, .pointer (some ⟨(fr7 2).x, 0, none⟩)), (22, .slice a1_o a1.length a1_c)]) (mem' := fun _ => [(1, r5 a1_o a1), (2, .rd a2_o 1 (nrows nR54 a2_h a2)), (3, Ent.all (nins nJ54 a2_h a2)), (4, .cells ((fr1 0).x) 23 [.int .i64 a0.Unit, .int .i64 a0.Count, .int .i64 a0.Size]), (5, .cells ((fr7 2).x) 24 [.int .i64 y8.Unit, .int .i64 y8.Count, .int .i64 y8.Size])]) (Nat.le_of_ble_eq_true (by kernel_rfl)) (RunsTo.mk [] [1, 2, 3, 7, 22] [1, 2, 3, 4, 5] (fun _ => []) (fun _ => by kernel_rfl) (fun _ => trivial)) ?_
    intro _
    refine GR.callG (X := Option Addr × Nat × Option Addr × Nat) (i := 1) (g := 28) (args := #[.slice a1_o a1.length a1_c]) (v := fun ⟨x13, x14, x15, x16⟩ => .tuple #[.slice x13 y11.1.length x14, .slice x15 y11.2.length x16]) (own := []) (ro := [r5 a1_o a1]) (es' := fun ⟨x13, x14, x15, x16⟩ => [r5 x13 y11.1, Ent.fact (y11.1.length ≤ x14), r5 x15 y11.2, Ent.fact (y11.2.length ≤ x16)]) (mem' := fun ⟨x13, x14, x15, x16⟩ => [(1, r5 a1_o a1), (2, .rd a2_o 1 (nrows nR54 a2_h a2)), (3, Ent.all (nins nJ54 a2_h a2)), (4, .cells ((fr1 0).x) 23 [.int .i64 a0.Unit, .int .i64 a0.Count, .int .i64 a0.Size]), (5, .cells ((fr7 2).x) 24 [.int .i64 y8.Unit, .int .i64 y8.Count, .int .i64 y8.Size]), (6, r5 x13 y11.1), (7, Ent.fact (y11.1.length ≤ x14)), (8, r5 x15 y11.2), (9, Ent.fact (y11.2.length ≤ x16))]) (env' := fun ⟨x13, x14, x15, x16⟩ => [(1, .slice a1_o a1.length a1_c), (2, .slice a2_o a2.length a2_c), (3, .pointer (some ⟨(fr1 0).x, 0, none⟩)), (7, .pointer (some ⟨(fr7 2).x, 0, none⟩)), (23, .tuple #[.slice x13 y11.1.length x14, .slice x15 y11.2.length x16])]) [] [6, 7, 8, 9] [1, 2, 3, 7, 23] [1, 2, 3, 4, 5, 6, 7, 8, 9] true (by kernel_rfl) (by kernel_rfl) (by kernel_rfl) (by kernel_rfl) (by kernel_rfl) (fun _ => rfl) (fun h => by cases h) ⟨(.inl ⟨1, _, rfl, rfl, Cov.refl _, fun _ => rfl⟩), trivial⟩ (by rintro ⟨x13, x14, x15, x16⟩; kernel_rfl) (by rintro ⟨x13, x14, x15, x16⟩; kernel_rfl) (w_tholeref01_Lend F a1_o a1_c a1 e12) ?_
    rintro ⟨x13, x14, x15, x16⟩
    refine GR.know (p := y11.1.length ≤ x14) (fun w hw => (hw.ok 7 _ rfl).1) (fun k17 => ?_)
    refine GR.know (p := y11.2.length ≤ x16) (fun w hw => (hw.ok 9 _ rfl).1) (fun k18 => ?_)
    refine GR.run (i := 2) 5 (env' := fun _ => [(1, .slice a1_o a1.length a1_c), (2, .slice a2_o a2.length a2_c), (3, .pointer (some ⟨(fr1 0).x, 0, none⟩)), (7, .pointer (some ⟨(fr7 2).x, 0, none⟩)), (8, .slice x13 y11.1.length x14), (9, .slice x15 y11.2.length x16)]) (mem' := fun _ => [(1, r5 a1_o a1), (2, .rd a2_o 1 (nrows nR54 a2_h a2)), (3, Ent.all (nins nJ54 a2_h a2)), (4, .cells ((fr1 0).x) 23 [.int .i64 a0.Unit, .int .i64 a0.Count, .int .i64 a0.Size]), (5, .cells ((fr7 2).x) 24 [.int .i64 y8.Unit, .int .i64 y8.Count, .int .i64 y8.Size]), (6, r5 x13 y11.1), (8, r5 x15 y11.2)]) (Nat.le_of_ble_eq_true (by kernel_rfl)) (RunsTo.mk [] [1, 2, 3, 7, 8, 9] [1, 2, 3, 4, 5, 6, 8] (fun _ => []) (fun _ => by kernel_rfl) (fun _ => trivial)) ?_
    intro _
    refine GR.done (Nat.le_of_ble_eq_true (by kernel_rfl)) ?_
    refine GS.seq ?_
    refine bnd_elim hm (fun y21 e22 hm => ?_)
    refine GS.open_ ?_
    refine GR.run (i := 0) 2 (env' := fun _ => [(1, .slice a1_o a1.length a1_c), (2, .slice a2_o a2.length a2_c), (3, .pointer (some ⟨(fr1 0).x, 0, none⟩)), (7, .pointer (some ⟨(fr7 2).x, 0, none⟩)), (8, .slice x13 y11.1.length x14), (26, .agg #[.int .i64 a0.Unit, .int .i64 a0.Count, .int .i64 a0.Size]), (27, .slice x15 y11.2.length x16)]) (mem' := fun _ => [(1, r5 a1_o a1), (2, .rd a2_o 1 (nrows nR54 a2_h a2)), (3, Ent.all (nins nJ54 a2_h a2)), (4, .cells ((fr1 0).x) 23 [.int .i64 a0.Unit, .int .i64 a0.Count, .int .i64 a0.Size]), (5, .cells ((fr7 2).x) 24 [.int .i64 y8.Unit, .int .i64 y8.Count, .int .i64 y8.Size]), (6, r5 x13 y11.1), (8, r5 x15 y11.2)]) (Nat.le_of_ble_eq_true (by kernel_rfl)) (RunsTo.mk [(0, { act := .load 4 0 0 [] })] [1, 2, 3, 7, 8, 26, 27] [1, 2, 3, 4, 5, 6, 8] (fun _ => [(fr1 0).x = (fr1 0).x]) (fun _ => by kernel_rfl) (fun _ => ⟨rfl, trivial⟩)) ?_
    intro _
    refine GR.callG (X := Option Addr × Nat × Hds) (i := 2) (g := 29) (args := #[.agg #[.int .i64 a0.Unit, .int .i64 a0.Count, .int .i64 a0.Size], .slice x15 y11.2.length x16]) (v := fun ⟨x23, x24, x25⟩ => .slice x23 y21.length x24) (own := []) (ro := [r5 x15 y11.2]) (es' := fun ⟨x23, x24, x25⟩ => [.osl x23 x24 54 1 (nrows nR54 x25 y21), bag (nins nI54 x25 y21)]) (mem' := fun ⟨x23, x24, x25⟩ => [(1, r5 a1_o a1), (2, .rd a2_o 1 (nrows nR54 a2_h a2)), (3, Ent.all (nins nJ54 a2_h a2)), (4, .cells ((fr1 0).x) 23 [.int .i64 a0.Unit, .int .i64 a0.Count, .int .i64 a0.Size]), (5, .cells ((fr7 2).x) 24 [.int .i64 y8.Unit, .int .i64 y8.Count, .int .i64 y8.Size]), (6, r5 x13 y11.1), (8, r5 x15 y11.2), (10, .osl x23 x24 54 1 (nrows nR54 x25 y21)), (11, bag (nins nI54 x25 y21))]) (env' := fun ⟨x23, x24, x25⟩ => [(1, .slice a1_o a1.length a1_c), (2, .slice a2_o a2.length a2_c), (3, .pointer (some ⟨(fr1 0).x, 0, none⟩)), (7, .pointer (some ⟨(fr7 2).x, 0, none⟩)), (8, .slice x13 y11.1.length x14), (28, .slice x23 y21.length x24)]) [] [10, 11] [1, 2, 3, 7, 8, 28] [1, 2, 3, 4, 5, 6, 8, 10, 11] false (by kernel_rfl) (by kernel_rfl) (by kernel_rfl) (by kernel_rfl) (by kernel_rfl) (fun _ => rfl) (fun _ _ => rfl) ⟨(.inl ⟨8, _, rfl, rfl, Cov.refl _, fun h => by cases h⟩), trivial⟩ (by rintro ⟨x23, x24, x25⟩; kernel_rfl) (by rintro ⟨x23, x24, x25⟩; kernel_rfl) (w_stripe_Split F a0 x15 x16 y11.2 k18 e22) ?_
    rintro ⟨x23, x24, x25⟩
    refine GR.run (i := 3) 1 (env' := fun _ => [(1, .slice a1_o a1.length a1_c), (2, .slice a2_o a2.length a2_c), (3, .pointer (some ⟨(fr1 0).x, 0, none⟩)), (7, .pointer (some ⟨(fr7 2).x, 0, none⟩)), (8, .slice x13 y11.1.length x14), (10, .slice x23 y21.length x24)]) (mem' := fun _ => [(1, r5 a1_o a1), (2, .rd a2_o 1 (nrows nR54 a2_h a2)), (3, Ent.all (nins nJ54 a2_h a2)), (4, .cells ((fr1 0).x) 23 [.int .i64 a0.Unit, .int .i64 a0.Count, .int .i64 a0.Size]), (5, .cells ((fr7 2).x) 24 [.int .i64 y8.Unit, .int .i64 y8.Count, .int .i64 y8.Size]), (6, r5 x13 y11.1), (10, .osl x23 x24 54 1 (nrows nR54 x25 y21)), (11, bag (nins nI54 x25 y21))]) (Nat.le_of_ble_eq_true (by kernel_rfl)) (RunsTo.mk [] [1, 2, 3, 7, 8, 10] [1, 2, 3, 4, 5, 6, 10, 11] (fun _ => []) (fun _ => by kernel_rfl) (fun _ => trivial)) ?_
    intro _
    refine GR.done (Nat.le_of_ble_eq_true (by kernel_rfl)) ?_
    refine GS.seq ?_
    refine GS.seq ?_
    refine jn_elim hm (fun J39 hJ41 hm => ?_)
    refine GS.cut (ι := Bool) (I := fun (v40_1 : Bool) => J39 v40_1 = some y) (E := fun (v40_1 : Bool) => [(1, .slice a1_o a1.length a1_c), (2, .slice a2_o a2.length a2_c), (3, .pointer (some ⟨(fr1 0).x, 0, none⟩)), (7, .pointer (some ⟨(fr7 2).x, 0, none⟩)), (40, .bool v40_1)]) (M := fun (v40_1 : Bool) => [(1, r5 a1_o a1), (2, .rd a2_o 1 (nrows nR54 a2_h a2)), (3, Ent.all (nins nJ54 a2_h a2)), (4, .cells ((fr1 0).x) 23 [.int .i64 a0.Unit, .int .i64 a0.Count, .int .i64 a0.Size]), (5, .cells ((fr7 2).x) 24 [.int .i64 y8.Unit, .int .i64 y8.Count, .int .i64 y8.Size])]) ?_ ?_
    rotate_left
    · intro H40
      refine bnd_elim hm (fun y28 e29 hm => ?_)
      refine GS.open_ ?_
      refine GR.run (i := 0) 3 (env' := fun _ => [(1, .slice a1_o a1.length a1_c), (2, .slice a2_o a2.length a2_c), (3, .pointer (some ⟨(fr1 0).x, 0, none⟩)), (7, .pointer (some ⟨(fr7 2).x, 0, none⟩)), (8, .slice x13 y11.1.length x14), (29, .slice x23 y21.length x24), (30, .agg #[.int .i64 y8.Unit, .int .i64 y8.Count, .int .i64 y8.Size]), (31, .slice a1_o a1.length a1_c)]) (mem' := fun _ => [(1, r5 a1_o a1), (2, .rd a2_o 1 (nrows nR54 a2_h a2)), (3, Ent.all (nins nJ54 a2_h a2)), (4, .cells ((fr1 0).x) 23 [.int .i64 a0.Unit, .int .i64 a0.Count, .int .i64 a0.Size]), (5, .cells ((fr7 2).x) 24 [.int .i64 y8.Unit, .int .i64 y8.Count, .int .i64 y8.Size]), (6, r5 x13 y11.1), (10, .osl x23 x24 54 1 (nrows nR54 x25 y21)), (11, bag (nins nI54 x25 y21))]) (Nat.le_of_ble_eq_true (by kernel_rfl)) (RunsTo.mk [(1, { act := .load 5 0 0 [] })] [1, 2, 3, 7, 8, 29, 30, 31] [1, 2, 3, 4, 5, 6, 10, 11] (fun _ => [(fr7 2).x = (fr7 2).x]) (fun _ => by kernel_rfl) (fun _ => ⟨rfl, trivial⟩)) ?_
      intro _
      refine GR.callG (X := Option Addr × Nat × Hds) (i := 3) (g := 31) (args := #[.agg #[.int .i64 y8.Unit, .int .i64 y8.Count, .int .i64 y8.Size], .slice a1_o a1.length a1_c]) (v := fun ⟨x30, x31, x32⟩ => .slice x30 y28.length x31) (own := []) (ro := [r5 a1_o a1]) (es' := fun ⟨x30, x31, x32⟩ => [.osl x30 x31 54 1 (nrows nR54 x32 y28), bag (nins nI54 x32 y28)]) (mem' := fun ⟨x30, x31, x32⟩ => [(1, r5 a1_o a1), (2, .rd a2_o 1 (nrows nR54 a2_h a2)), (3, Ent.all (nins nJ54 a2_h a2)), (4, .cells ((fr1 0).x) 23 [.int .i64 a0.Unit, .int .i64 a0.Count, .int .i64 a0.Size]), (5, .cells ((fr7 2).x) 24 [.int .i64 y8.Unit, .int .i64 y8.Count, .int .i64 y8.Size]), (6, r5 x13 y11.1), (10, .osl x23 x24 54 1 (nrows nR54 x25 y21)), (11, bag (nins nI54 x25 y21)), (12, .osl x30 x31 54 1 (nrows nR54 x32 y28)), (13, bag (nins nI54 x32 y28))]) (env' := fun ⟨x30, x31, x32⟩ => [(1, .slice a1_o a1.length a1_c), (2, .slice a2_o a2.length a2_c), (3, .pointer (some ⟨(fr1 0).x, 0, none⟩)), (7, .pointer (some ⟨(fr7 2).x, 0, none⟩)), (8, .slice x13 y11.1.length x14), (29, .slice x23 y21.length x24), (32, .slice x30 y28.length x31)]) [] [12, 13] [1, 2, 3, 7, 8, 29, 32] [1, 2, 3, 4, 5, 6, 10, 11, 12, 13] false (by kernel_rfl) (by kernel_rfl) (by kernel_rfl) (by kernel_rfl) (by kernel_rfl) (fun _ => rfl) (fun _ _ => rfl) ⟨(.inl ⟨1, _, rfl, rfl, Cov.refl _, fun h => by cases h⟩), trivial⟩ (by rintro ⟨x30, x31, x32⟩; kernel_rfl) (by rintro ⟨x30, x31, x32⟩; kernel_rfl) (w_tholeref24_Split F y8 a1_o a1_c a1 e29) ?_
      rintro ⟨x30, x31, x32⟩
      refine bnd_elim hm (fun y34 e35 hm => ?_)
      refine br_elim hm (fun h36 hm => ?_) (fun h36 hm => ?_)
      · skip
        refine GR.run (i := 4) 8 (env' := fun _ => [(1, .slice a1_o a1.length a1_c), (2, .slice a2_o a2.length a2_c), (3, .pointer (some ⟨(fr1 0).x, 0, none⟩)), (7, .pointer (some ⟨(fr7 2).x, 0, none⟩)), (40, .bool true)]) (mem' := fun _ => [(1, r5 a1_o a1), (2, .rd a2_o 1 (nrows nR54 a2_h a2)), (3, Ent.all (nins nJ54 a2_h a2)), (4, .cells ((fr1 0).x) 23 [.int .i64 a0.Unit, .int .i64 a0.Count, .int .i64 a0.Size]), (5, .cells ((fr7 2).x) 24 [.int .i64 y8.Unit, .int .i64 y8.Count, .int .i64 y8.Size])]) (Nat.le_of_ble_eq_true (by kernel_rfl)) (RunsTo.mk [(4, { act := .call [10, 11, 12, 13] (.bool y34) }), (6, { sp := some (.bool true) })] [1, 2, 3, 7, 40] [1, 2, 3, 4, 5] (fun _ => [CallOK Tryd.prog 30 #[.slice x23 y21.length x24, .slice x30 y28.length x31] (.bool y34) [some (.osl x23 x24 54 1 (nrows nR54 x25 y21)), some (bag (nins nI54 x25 y21)), some (.osl x30 x31 54 1 (nrows nR54 x32 y28)), some (bag (nins nI54 x32 y28))], ((.bool (!y34)) : Value) = .bool true]) (fun _ => by kernel_rfl) (fun _ => ⟨(w_tholelaw24_lists F x23 x24 x25 y21 x30 x31 x32 y28 e35).ok ⟨(.inl ⟨.osl x23 x24 54 1 (nrows nR54 x25 y21), .head _, Cov.osl_rd⟩), (.inl ⟨bag (nins nI54 x25 y21), (.tail _ (.head _)), (Cov.bag_all (nins_cov nC54 _ _))⟩), (.inl ⟨.osl x30 x31 54 1 (nrows nR54 x32 y28), (.tail _ (.tail _ (.head _))), Cov.osl_rd⟩), (.inl ⟨bag (nins nI54 x32 y28), (.tail _ (.tail _ (.tail _ (.head _)))), (Cov.bag_all (nins_cov nC54 _ _))⟩), trivial⟩, bool_eq h36, trivial⟩)) ?_
        intro _
        refine GR.done (Nat.le_of_ble_eq_true (by kernel_rfl)) ?_
        refine GS.rekey (env' := [(1, .slice a1_o a1.length a1_c), (2, .slice a2_o a2.length a2_c), (3, .pointer (some ⟨(fr1 0).x, 0, none⟩)), (7, .pointer (some ⟨(fr7 2).x, 0, none⟩)), (40, .bool true)]) (mem' := [(1, r5 a1_o a1), (2, .rd a2_o 1 (nrows nR54 a2_h a2)), (3, Ent.all (nins nJ54 a2_h a2)), (4, .cells ((fr1 0).x) 23 [.int .i64 a0.Unit, .int .i64 a0.Count, .int .i64 a0.Size]), (5, .cells ((fr7 2).x) 24 [.int .i64 y8.Unit, .int .i64 y8.Count, .int .i64 y8.Size])]) [1, 2, 3, 7, 40] [(1, 1), (2, 2), (3, 3), (4, 4), (5, 5)] (by kernel_rfl) (by kernel_rfl) rfl ?_
        exact H40 true hm
      · skip
        refine bnd_elim hm (fun y37 e38 hm => ?_)
        refine GR.run (i := 4) 8 (env' := fun _ => [(1, .slice a1_o a1.length a1_c), (2, .slice a2_o a2.length a2_c), (3, .pointer (some ⟨(fr1 0).x, 0, none⟩)), (7, .pointer (some ⟨(fr7 2).x, 0, none⟩)), (40, .bool (!y37))]) (mem' := fun _ => [(1, r5 a1_o a1), (2, .rd a2_o 1 (nrows nR54 a2_h a2)), (3, Ent.all (nins nJ54 a2_h a2)), (4, .cells ((fr1 0).x) 23 [.int .i64 a0.Unit, .int .i64 a0.Count, .int .i64 a0.Size]), (5, .cells ((fr7 2).x) 24 [.int .i64 y8.Unit, .int .i64 y8.Count, .int .i64 y8.Size])]) (Nat.le_of_ble_eq_true (by kernel_rfl)) (RunsTo.mk [(4, { act := .call [10, 11, 12, 13] (.bool y34) }), (6, { sp := some (.bool false) }), (9, { act := .call [1, 6] (.bool y37) })] [1, 2, 3, 7, 40] [1, 2, 3, 4, 5] (fun _ => [CallOK Tryd.prog 30 #[.slice x23 y21.length x24, .slice x30 y28.length x31] (.bool y34) [some (.osl x23 x24 54 1 (nrows nR54 x25 y21)), some (bag (nins nI54 x25 y21)), some (.osl x30 x31 54 1 (nrows nR54 x32 y28)), some (bag (nins nI54 x32 y28))], ((.bool (!y34)) : Value) = .bool false, CallOK Tryd.prog 32 #[.slice x13 y11.1.length x14, .slice a1_o a1.length a1_c] (.bool y37) [some (r5 a1_o a1), some (r5 x13 y11.1)]]) (fun _ => by kernel_rfl) (fun _ => ⟨(w_tholelaw24_lists F x23 x24 x25 y21 x30 x31 x32 y28 e35).ok ⟨(.inl ⟨.osl x23 x24 54 1 (nrows nR54 x25 y21), .head _, Cov.osl_rd⟩), (.inl ⟨bag (nins nI54 x25 y21), (.tail _ (.head _)), (Cov.bag_all (nins_cov nC54 _ _))⟩), (.inl ⟨.osl x30 x31 54 1 (nrows nR54 x32 y28), (.tail _ (.tail _ (.head _))), Cov.osl_rd⟩), (.inl ⟨bag (nins nI54 x32 y28), (.tail _ (.tail _ (.tail _ (.head _)))), (Cov.bag_all (nins_cov nC54 _ _))⟩), trivial⟩, bool_eq h36, (w_tholeref01_Kept F x13 x14 y11.1 a1_o a1_c a1 k17 e38).ok ⟨(.inl ⟨r5 x13 y11.1, (.tail _ (.head _)), Cov.refl _⟩), (.inl ⟨r5 a1_o a1, .head _, Cov.refl _⟩), trivial⟩, trivial⟩)) ?_
        intro _
        refine GR.done (Nat.le_of_ble_eq_true (by kernel_rfl)) ?_
        refine GS.rekey (env' := [(1, .slice a1_o a1.length a1_c), (2, .slice a2_o a2.length a2_c), (3, .pointer (some ⟨(fr1 0).x, 0, none⟩)), (7, .pointer (some ⟨(fr7 2).x, 0, none⟩)), (40, .bool (!y37))]) (mem' := [(1, r5 a1_o a1), (2, .rd a2_o 1 (nrows nR54 a2_h a2)), (3, Ent.all (nins nJ54 a2_h a2)), (4, .cells ((fr1 0).x) 23 [.int .i64 a0.Unit, .int .i64 a0.Count, .int .i64 a0.Size]), (5, .cells ((fr7 2).x) 24 [.int .i64 y8.Unit, .int .i64 y8.Count, .int .i64 y8.Size])]) [1, 2, 3, 7, 40] [(1, 1), (2, 2), (3, 3), (4, 4), (5, 5)] (by kernel_rfl) (by kernel_rfl) rfl ?_
        exact H40 (!y37) hm
    · rintro v40_1 hm
      replace hm := (hJ41 _).symm.trans hm
      try dsimp only at hm
      refine GS.cond (t := v40_1) rfl rfl (fun h42 => ?_) (fun h42 => ?_)
      · replace hm := br_t h42 hm
        refine GS.seq ?_
        refine GS.region (env' := fun _ => [(6, .bool false)]) (mem' := fun _ => []) (RunsTo.mk [] [6] [] (fun _ => []) (fun _ => by kernel_rfl) (fun _ => trivial)) ?_
        intro _
        have hy := Option.some.inj hm
        subst hy
        refine GS.ret (fn := Tryd.f7) [0] [.bool false] [] rfl Tryd.func7 (by kernel_rfl) trivial (fun w' hs => ?_)
        exact ⟨(), rfl, hs.turnedG (ks := []) rfl rfl⟩
      · replace hm := br_f h42 hm
        refine GS.skip ?_
        refine GS.seq ?_
        refine bnd_elim hm (fun y45 e46 hm => ?_)
        refine GS.open_ ?_
        refine GR.run (i := 0) 4 (env' := fun _ => [(1, .slice a1_o a1.length a1_c), (2, .slice a2_o a2.length a2_c), (7, .pointer (some ⟨(fr7 2).x, 0, none⟩)), (42, .agg #[.int .i64 a0.Unit, .int .i64 a0.Count, .int .i64 a0.Size]), (44, .int .i64 ((a1.length : Nat) : Int)), (45, .slice a2_o a2.length a2_c)]) (mem' := fun _ => [(1, r5 a1_o a1), (2, .rd a2_o 1 (nrows nR54 a2_h a2)), (3, Ent.all (nins nJ54 a2_h a2)), (5, .cells ((fr7 2).x) 24 [.int .i64 y8.Unit, .int .i64 y8.Count, .int .i64 y8.Size])]) (Nat.le_of_ble_eq_true (by kernel_rfl)) (RunsTo.mk [(0, { act := .load 4 0 0 [] })] [1, 2, 7, 42, 44, 45] [1, 2, 3, 5] (fun _ => [(fr1 0).x = (fr1 0).x]) (fun _ => by kernel_rfl) (fun _ => ⟨rfl, trivial⟩)) ?_
        intro _
        refine GR.callG (X := Option Addr × Nat) (i := 4) (g := 33) (args := #[.agg #[.int .i64 a0.Unit, .int .i64 a0.Count, .int .i64 a0.Size], .int .i64 ((a1.length : Nat) : Int), .slice a2_o a2.length a2_c]) (v := fun ⟨x47, x48⟩ => .tuple #[.slice x47 y45.1.length x48, .int .i64 y45.2]) (own := []) (ro := [.rd a2_o 1 (nrows nR54 a2_h a2), Ent.all (nins nJ54 a2_h a2)]) (es' := fun ⟨x47, x48⟩ => [o5 x47 x48 y45.1]) (mem' := fun ⟨x47, x48⟩ => [(1, r5 a1_o a1), (2, .rd a2_o 1 (nrows nR54 a2_h a2)), (3, Ent.all (nins nJ54 a2_h a2)), (5, .cells ((fr7 2).x) 24 [.int .i64 y8.Unit, .int .i64 y8.Count, .int .i64 y8.Size]), (14, o5 x47 x48 y45.1)]) (env' := fun ⟨x47, x48⟩ => [(1, .slice a1_o a1.length a1_c), (2, .slice a2_o a2.length a2_c), (7, .pointer (some ⟨(fr7 2).x, 0, none⟩)), (46, .tuple #[.slice x47 y45.1.length x48, .int .i64 y45.2])]) [] [14] [1, 2, 7, 46] [1, 2, 3, 5, 14] false (by kernel_rfl) (by kernel_rfl) (by kernel_rfl) (by kernel_rfl) (by kernel_rfl) (fun _ => rfl) (fun _ _ => rfl) ⟨(.inl ⟨2, _, rfl, rfl, Cov.refl _, fun h => by cases h⟩), (.inl ⟨3, _, rfl, rfl, Cov.refl _, fun h => by cases h⟩), trivial⟩ (by rintro ⟨x47, x48⟩; kernel_rfl) (by rintro ⟨x47, x48⟩; kernel_rfl) (w_stripe_Join F a0 ((a1.length : Nat) : Int) a2_o a2_c a2_h a2 e46) ?_
        rintro ⟨x47, x48⟩
        refine GR.run (i := 5) 5 (env' := fun _ => [(1, .slice a1_o a1.length a1_c), (2, .slice a2_o a2.length a2_c), (7, .pointer (some ⟨(fr7 2).x, 0, none⟩)), (11, .slice x47 y45.1.length x48), (12, .int .i64 y45.2)]) (mem' := fun _ => [(1, r5 a1_o a1), (2, .rd a2_o 1 (nrows nR54 a2_h a2)), (3, Ent.all (nins nJ54 a2_h a2)), (5, .cells ((fr7 2).x) 24 [.int .i64 y8.Unit, .int .i64 y8.Count, .int .i64 y8.Size]), (14, o5 x47 x48 y45.1)]) (Nat.le_of_ble_eq_true (by kernel_rfl)) (RunsTo.mk [] [1, 2, 7, 11, 12] [1, 2, 3, 5, 14] (fun _ => []) (fun _ => by kernel_rfl) (fun _ => trivial)) ?_
        intro _
        refine GR.done (Nat.le_of_ble_eq_true (by kernel_rfl)) ?_
        refine GS.seq ?_
        refine bnd_elim hm (fun y51 e52 hm => ?_)
        refine GS.open_ ?_
        refine GR.run (i := 0) 4 (env' := fun _ => [(11, .slice x47 y45.1.length x48), (12, .int .i64 y45.2), (50, .agg #[.int .i64 y8.Unit, .int .i64 y8.Count, .int .i64 y8.Size]), (52, .int .i64 ((a1.length : Nat) : Int)), (53, .slice a2_o a2.length a2_c)]) (mem' := fun _ => [(2, .rd a2_o 1 (nrows nR54 a2_h a2)), (3, Ent.all (nins nJ54 a2_h a2)), (14, o5 x47 x48 y45.1)]) (Nat.le_of_ble_eq_true (by kernel_rfl)) (RunsTo.mk [(0, { act := .load 5 0 0 [] })] [11, 12, 50, 52, 53] [2, 3, 14] (fun _ => [(fr7 2).x = (fr7 2).x]) (fun _ => by kernel_rfl) (fun _ => ⟨rfl, trivial⟩)) ?_
        intro _
        refine GR.callG (X := Option Addr × Nat) (i := 4) (g := 34) (args := #[.agg #[.int .i64 y8.Unit, .int .i64 y8.Count, .int .i64 y8.Size], .int .i64 ((a1.length : Nat) : Int), .slice a2_o a2.length a2_c]) (v := fun ⟨x53, x54⟩ => .tuple #[.slice x53 y51.1.length x54, .int .i64 y51.2]) (own := []) (ro := [.rd a2_o 1 (nrows nR54 a2_h a2), Ent.all (nins nJ54 a2_h a2)]) (es' := fun ⟨x53, x54⟩ => [o5 x53 x54 y51.1]) (mem' := fun ⟨x53, x54⟩ => [(2, .rd a2_o 1 (nrows nR54 a2_h a2)), (3, Ent.all (nins nJ54 a2_h a2)), (14, o5 x47 x48 y45.1), (15, o5 x53 x54 y51.1)]) (env' := fun ⟨x53, x54⟩ => [(11, .slice x47 y45.1.length x48), (12, .int .i64 y45.2), (54, .tuple #[.slice x53 y51.1.length x54, .int .i64 y51.2])]) [] [15] [11, 12, 54] [2, 3, 14, 15] false (by kernel_rfl) (by kernel_rfl) (by kernel_rfl) (by kernel_rfl) (by kernel_rfl) (fun _ => rfl) (fun _ _ => rfl) ⟨(.inl ⟨2, _, rfl, rfl, Cov.refl _, fun h => by cases h⟩), (.inl ⟨3, _, rfl, rfl, Cov.refl _, fun h => by cases h⟩), trivial⟩ (by rintro ⟨x53, x54⟩; kernel_rfl) (by rintro ⟨x53, x54⟩; kernel_rfl) (w_tholeref24_Join F y8 ((a1.length : Nat) : Int) a2_o a2_c a2_h a2 e52) ?_
        rintro ⟨x53, x54⟩
        refine GR.run (i := 5) 5 (env' := fun _ => [(11, .slice x47 y45.1.length x48), (12, .int .i64 y45.2), (13, .slice x53 y51.1.length x54), (14, .int .i64 y51.2)]) (mem' := fun _ => [(14, o5 x47 x48 y45.1), (15, o5 x53 x54 y51.1)]) (Nat.le_of_ble_eq_true (by kernel_rfl)) (RunsTo.mk [] [11, 12, 13, 14] [14, 15] (fun _ => []) (fun _ => by kernel_rfl) (fun _ => trivial)) ?_
        intro _
        refine GR.done (Nat.le_of_ble_eq_true (by kernel_rfl)) ?_
        refine GS.seq ?_
        refine br_elim hm (fun h57 hm => ?_) (fun h57 hm => ?_)
        · skip
          refine bnd_elim hm (fun y58 e59 hm => ?_)
          refine br_elim hm (fun h60 hm => ?_) (fun h60 hm => ?_)
          · skip
            refine bnd_elim hm (fun y61 e62 hm => ?_)
            refine GS.region (env' := fun _ => [(6, .bool y61)]) (mem' := fun _ => []) (RunsTo.mk [(3, { sp := some (.bool true) }), (6, { act := .call [14, 15] (.bool y58) }), (8, { sp := some (.bool true) }), (9, { act := .call [] (.bool y61) })] [6] [] (fun _ => [((.bool (y45.2 == y51.2)) : Value) = .bool true, CallOK Tryd.prog 35 #[.slice x47 y45.1.length x48, .slice x53 y51.1.length x54] (.bool y58) [some (o5 x47 x48 y45.1), some (o5 x53 x54 y51.1)], ((.bool y58) : Value) = .bool true, CallOK Tryd.prog 16 #[] (.bool y61) []]) (fun _ => by kernel_rfl) (fun _ => ⟨bool_eq h57, (w_tholeref01_Same F x47 x48 y45.1 x53 x54 y51.1 e59).ok ⟨(.inl ⟨o5 x47 x48 y45.1, .head _, Cov.osl_rd⟩), (.inl ⟨o5 x53 x54 y51.1, (.tail _ (.head _)), Cov.osl_rd⟩), trivial⟩, bool_eq h60, (w_tholelaw24_lives F  e62).ok trivial, trivial⟩)) ?_
            intro _
            have hy := Option.some.inj hm
            subst hy
            refine GS.ret (fn := Tryd.f7) [0] [.bool y61] [] rfl Tryd.func7 (by kernel_rfl) trivial (fun w' hs => ?_)
            exact ⟨(), rfl, hs.turnedG (ks := []) rfl rfl⟩
          · skip
            refine GS.region (env' := fun _ => [(6, .bool false)]) (mem' := fun _ => []) (RunsTo.mk [(3, { sp := some (.bool true) }), (6, { act := .call [14, 15] (.bool y58) }), (8, { sp := some (.bool false) })] [6] [] (fun _ => [((.bool (y45.2 == y51.2)) : Value) = .bool true, CallOK Tryd.prog 35 #[.slice x47 y45.1.length x48, .slice x53 y51.1.length x54] (.bool y58) [some (o5 x47 x48 y45.1), some (o5 x53 x54 y51.1)], ((.bool y58) : Value) = .bool false]) (fun _ => by kernel_rfl) (fun _ => ⟨bool_eq h57, (w_tholeref01_Same F x47 x48 y45.1 x53 x54 y51.1 e59).ok ⟨(.inl ⟨o5 x47 x48 y45.1, .head _, Cov.osl_rd⟩), (.inl ⟨o5 x53 x54 y51.1, (.tail _ (.head _)), Cov.osl_rd⟩), trivial⟩, bool_eq h60, trivial⟩)) ?_
            intro _
            have hy := Option.some.inj hm
            subst hy
            refine GS.ret (fn := Tryd.f7) [0] [.bool false] [] rfl Tryd.func7 (by kernel_rfl) trivial (fun w' hs => ?_)
            exact ⟨(), rfl, hs.turnedG (ks := []) rfl rfl⟩
        · skip
          refine GS.region (env' := fun _ => [(6, .bool false)]) (mem' := fun _ => []) (RunsTo.mk [(3, { sp := some (.bool false) })] [6] [] (fun _ => [((.bool (y45.2 == y51.2)) : Value) = .bool false]) (fun _ => by kernel_rfl) (fun _ => ⟨bool_eq h57, trivial⟩)) ?_
          intro _
          have hy := Option.some.inj hm
          subst hy
          refine GS.ret (fn := Tryd.f7) [0] [.bool false] [] rfl Tryd.func7 (by kernel_rfl) trivial (fun w' hs => ?_)
          exact ⟨(), rfl, hs.turnedG (ks := []) rfl rfl⟩

end Go.Proofs.YtfdojammchbboaaDoor
