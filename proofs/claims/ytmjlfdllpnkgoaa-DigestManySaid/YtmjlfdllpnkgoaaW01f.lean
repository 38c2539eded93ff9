/-
  CHAPTER 01: the functions do what their models say (6).
-/
import Derived.Test.YtmjlfdllpnkgoaaW01e
set_option linter.unusedVariables false
set_option linter.unusedSimpArgs false
set_option maxRecDepth 100000
namespace Go.Proofs.Ytmjlfdllpnkgoaa
open Go Go.RowKit Sx

theorem w_tholeref01_Lend (F : Nat) (a0_o : Option Addr) (a0_c : Nat) (a0 : List UInt8) {y : List UInt8 × List UInt8} (hm : m_tholeref01_Lend F a0 = some y) : CallG Try.prog 12 #[.slice a0_o a0.length a0_c] (X := Option Addr × Nat × Option Addr × Nat) (fun ⟨x0, x1, x2, x3⟩ => .tuple #[.slice x0 y.1.length x1, .slice x2 y.2.length x3]) [] [r5 a0_o a0] (fun ⟨x0, x1, x2, x3⟩ => [r5 x0 y.1, Ent.fact (y.1.length ≤ x1), r5 x2 y.2, Ent.fact (y.2.length ≤ x3)]) := by
  intro w hg
  rw [m_tholeref01_Lend] at hm
  refine GS.start (S := mayT [] [r5 a0_o a0]) (mem := [(1, r5 a0_o a0)]) Try.func12 rfl Try.ntmps12 (Nat.le_of_ble_eq_true rfl) (hg.start rfl) ?_
  refine GS.conv (env' := [(0, .slice a0_o a0.length a0_c)]) rfl rfl ?_
  refine GS.seq ?_
  refine GS.region (env' := fun _ => [(0, .slice a0_o a0.length a0_c)]) (mem' := fun _ => [(1, r5 a0_o a0)]) (RunsTo.mk [] [0] [1] (fun _ => []) (fun _ => by kernel_rfl) (fun _ => trivial)) ?_
  intro _
  refine GS.seq ?_
  refine grd_elim hm (fun g3 hm => ?_)
  refine grd_elim hm (fun g4 hm => ?_)
  refine GS.region (env' := fun fr2 => [(0, .slice a0_o a0.length a0_c), (4, .slice (some (Addr.mk (fr2 3).x 0 none)) ((List.replicate (a0.length + 2) (0 : UInt8)).length) (a0.length + 2))]) (mem' := fun fr2 => [(1, r5 a0_o a0), (2, .osl (some (Addr.mk (fr2 3).x 0 none)) (a0.length + 2) 5 1 (List.replicate (a0.length + 2) [.int .u8 0]))]) (RunsTo.mk [(2, { sp := some (.int .i64 ((a0.length + 2 : Nat) : Int)) }), (3, { act := .makeSlice (a0.length + 2) (a0.length + 2), key := some 2, spf := some (fun f => .slice (some (Addr.mk f.x 0 none)) ((List.replicate (a0.length + 2) (0 : UInt8)).length) (a0.length + 2)) })] [0, 4] [1, 2] (fun fr2 => [((.int .i64 (IntKind.i64.wrap (((a0.length : Nat) : Int) + 2))) : Value) = .int .i64 ((a0.length + 2 : Nat) : Int), ((a0.length + 2 : Nat) : Int) = (((a0.length + 2) : Nat) : Int), ((a0.length + 2 : Nat) : Int) = (((a0.length + 2) : Nat) : Int), (a0.length + 2) ≤ (a0.length + 2), (a0.length + 2) * 1 ≤ 281474976710656, (a0.length + 2) ≤ 9223372036854775807, ((.slice (some (Addr.mk (fr2 3).x 0 none)) (a0.length + 2) (a0.length + 2)) : Value) = .slice (some (Addr.mk (fr2 3).x 0 none)) ((List.replicate (a0.length + 2) (0 : UInt8)).length) (a0.length + 2)]) (fun fr2 => by kernel_rfl) (fun fr2 => ⟨natw2 g3, rfl, rfl, (Nat.le_refl _), g4, g3, slen (List.length_replicate ..).symm, trivial⟩)) ?_
  intro fr2
  refine GS.conv (mem' := [(1, r5 a0_o a0), (2, o5 (some (Addr.mk (fr2 3).x 0 none)) (a0.length + 2) (List.replicate (a0.length + 2) (0 : UInt8)))]) rfl (congrArg (fun rr : List (List Value) => ([(1, r5 a0_o a0), (2, .osl (some (Addr.mk (fr2 3).x 0 none)) (a0.length + 2) 5 1 rr)] : List (Nat × Ent))) (show List.replicate (a0.length + 2) [.int .u8 0] = List.map rB (List.replicate (a0.length + 2) (0 : UInt8)) from mrep rB (a0.length + 2) (0 : UInt8))) ?_
  refine GS.seq ?_
  refine grd_elim hm (fun g6 hm => ?_)
  refine grd_elim hm (fun g7 hm => ?_)
  refine grd_elim hm (fun g8 hm => ?_)
  refine GS.region (env' := fun _ => [(0, .slice a0_o a0.length a0_c), (4, .slice (some (Addr.mk (fr2 3).x 0 none)) ((List.replicate (a0.length + 2) (0 : UInt8)).length) (a0.length + 2))]) (mem' := fun _ => [(1, r5 a0_o a0), (2, .osl (some (Addr.mk (fr2 3).x 0 none)) (a0.length + 2) 5 1 (((List.map rB (List.replicate (a0.length + 2) (0 : UInt8))).set 0 [.int .u8 165]).set (a0.length + 1) [.int .u8 90]))]) (RunsTo.mk [(4, { sp := some (.int .i64 ((a0.length + 1 : Nat) : Int)) }), (5, { act := .idx 2 0 }), (6, { act := .store 0 0 [.int .u8 ((((List.replicate (a0.length + 2) (0 : UInt8)).getD 0 0).toNat : Nat) : Int)], key := some 2 }), (7, { act := .idx 2 (a0.length + 1) }), (8, { act := .store (a0.length + 1) 0 [.int .u8 (((((List.replicate (a0.length + 2) (0 : UInt8)).set 0 (165 : UInt8)).getD (a0.length + 1) 0).toNat : Nat) : Int)], key := some 2 })] [0, 4] [1, 2] (fun _ => [((.int .i64 (IntKind.i64.wrap (((a0.length : Nat) : Int) + 1))) : Value) = .int .i64 ((a0.length + 1 : Nat) : Int), some (Addr.mk (fr2 3).x 0 none) = some (Addr.mk (fr2 3).x 0 none), (List.replicate (a0.length + 2) (0 : UInt8)).length = (List.map rB (List.replicate (a0.length + 2) (0 : UInt8))).length, (0 : Int) = ((0 : Nat) : Int), 0 < (List.replicate (a0.length + 2) (0 : UInt8)).length, blk (some (Addr.mk (fr2 3).x 0 none)) = blk (some (Addr.mk (fr2 3).x 0 none)), offs (some (Addr.mk (fr2 3).x 0 none)) + 0 * 1 = offs (some (Addr.mk (fr2 3).x 0 none)) + (0 * 1 + 0), (List.map rB (List.replicate (a0.length + 2) (0 : UInt8)))[0]? = some [.int .u8 ((((List.replicate (a0.length + 2) (0 : UInt8)).getD 0 0).toNat : Nat) : Int)], ((.int .u8 165) : Value).cells.toList.all Value.oneCell' = true, some (Addr.mk (fr2 3).x 0 none) = some (Addr.mk (fr2 3).x 0 none), (List.replicate (a0.length + 2) (0 : UInt8)).length = ((List.map rB (List.replicate (a0.length + 2) (0 : UInt8))).set 0 [.int .u8 165]).length, (((a0.length + 1 : Nat) : Int) : Int) = (((a0.length + 1) : Nat) : Int), (a0.length + 1) < (List.replicate (a0.length + 2) (0 : UInt8)).length, blk (some (Addr.mk (fr2 3).x 0 none)) = blk (some (Addr.mk (fr2 3).x 0 none)), offs (some (Addr.mk (fr2 3).x 0 none)) + (a0.length + 1) * 1 = offs (some (Addr.mk (fr2 3).x 0 none)) + ((a0.length + 1) * 1 + 0), ((List.map rB (List.replicate (a0.length + 2) (0 : UInt8))).set 0 [.int .u8 165])[(a0.length + 1)]? = some [.int .u8 (((((List.replicate (a0.length + 2) (0 : UInt8)).set 0 (165 : UInt8)).getD (a0.length + 1) 0).toNat : Nat) : Int)], ((.int .u8 90) : Value).cells.toList.all Value.oneCell' = true]) (fun _ => by kernel_rfl) (fun _ => ⟨natw2 g6, rfl, mlen rB (List.replicate (a0.length + 2) (0 : UInt8)), rfl, g7, rfl, rfl, map_at rB 0 g7, rfl, rfl, (by simp []), rfl, (Nat.lt_of_lt_of_eq g8 (show ((List.replicate (a0.length + 2) (0 : UInt8)).set 0 (165 : UInt8)).length = (List.replicate (a0.length + 2) (0 : UInt8)).length from (by simp []))), rfl, rfl, (by rw [show (List.map rB (List.replicate (a0.length + 2) (0 : UInt8))).set 0 [.int .u8 165] = List.map rB ((List.replicate (a0.length + 2) (0 : UInt8)).set 0 (165 : UInt8)) from mset rB (List.replicate (a0.length + 2) (0 : UInt8)) 0 (165 : UInt8)]; exact map_at rB 0 g8), rfl, trivial⟩)) ?_
  intro _
  refine GS.conv (mem' := [(1, r5 a0_o a0), (2, o5 (some (Addr.mk (fr2 3).x 0 none)) (a0.length + 2) (((List.replicate (a0.length + 2) (0 : UInt8)).set 0 (165 : UInt8)).set (a0.length + 1) (90 : UInt8)))]) rfl (congrArg (fun rr : List (List Value) => ([(1, r5 a0_o a0), (2, .osl (some (Addr.mk (fr2 3).x 0 none)) (a0.length + 2) 5 1 rr)] : List (Nat × Ent))) (show ((List.map rB (List.replicate (a0.length + 2) (0 : UInt8))).set 0 [.int .u8 165]).set (a0.length + 1) [.int .u8 90] = List.map rB (((List.replicate (a0.length + 2) (0 : UInt8)).set 0 (165 : UInt8)).set (a0.length + 1) (90 : UInt8)) from (by rw [show (List.map rB (List.replicate (a0.length + 2) (0 : UInt8))).set 0 [.int .u8 165] = List.map rB ((List.replicate (a0.length + 2) (0 : UInt8)).set 0 (165 : UInt8)) from mset rB (List.replicate (a0.length + 2) (0 : UInt8)) 0 (165 : UInt8)]; exact mset rB ((List.replicate (a0.length + 2) (0 : UInt8)).set 0 (165 : UInt8)) (a0.length + 1) (90 : UInt8)))) ?_
  refine GS.seq ?_
  refine GS.seq ?_
  refine GS.conv (env' := [(0, .slice a0_o a0.length a0_c), (4, .slice (some (Addr.mk (fr2 3).x 0 none)) ((((List.replicate (a0.length + 2) (0 : UInt8)).set 0 (165 : UInt8)).set (a0.length + 1) (90 : UInt8)).length) (a0.length + 2))]) (congrArg (fun vhole : Value => [(0, .slice a0_o a0.length a0_c), (4, vhole)]) (show ((.slice (some (Addr.mk (fr2 3).x 0 none)) ((List.replicate (a0.length + 2) (0 : UInt8)).length) (a0.length + 2)) : Value) = .slice (some (Addr.mk (fr2 3).x 0 none)) ((((List.replicate (a0.length + 2) (0 : UInt8)).set 0 (165 : UInt8)).set (a0.length + 1) (90 : UInt8)).length) (a0.length + 2) from (by simp []))) rfl ?_
  refine GS.region (env' := fun _ => [(0, .slice a0_o a0.length a0_c), (4, .slice (some (Addr.mk (fr2 3).x 0 none)) ((((List.replicate (a0.length + 2) (0 : UInt8)).set 0 (165 : UInt8)).set (a0.length + 1) (90 : UInt8)).length) (a0.length + 2)), (18, .slice a0_o a0.length a0_c), (19, .int .i64 ((a0.length : Nat) : Int)), (20, .int .i64 0)]) (mem' := fun _ => [(1, r5 a0_o a0), (2, o5 (some (Addr.mk (fr2 3).x 0 none)) (a0.length + 2) (((List.replicate (a0.length + 2) (0 : UInt8)).set 0 (165 : UInt8)).set (a0.length + 1) (90 : UInt8)))]) (RunsTo.mk [] [0, 4, 18, 19, 20] [1, 2] (fun _ => []) (fun _ => by kernel_rfl) (fun _ => trivial)) ?_
  intro _
  refine GS.block ?_
  refine GS.loop ?_
  refine GS.know (p := (((List.replicate (a0.length + 2) (0 : UInt8)).set 0 (165 : UInt8)).set (a0.length + 1) (90 : UInt8)).length ≤ (a0.length + 2)) (fun w hw => by first | (have h := (hw.ok 2 _ rfl).1.1; rw [List.length_map] at h; exact h) | simpa using (hw.ok 2 _ rfl).1.1) (fun k10 => ?_)
  refine grd_elim hm (fun g27 hm => ?_)
  refine GS.rekey (env' := [(0, .slice a0_o a0.length a0_c), (4, .slice (some (Addr.mk (fr2 3).x 0 none)) ((((List.replicate (a0.length + 2) (0 : UInt8)).set 0 (165 : UInt8)).set (a0.length + 1) (90 : UInt8)).length) (a0.length + 2)), (18, .slice a0_o a0.length a0_c), (19, .int .i64 ((a0.length : Nat) : Int)), (20, .int .i64 0)]) (mem' := [(1, r5 a0_o a0), (2, o5 (some (Addr.mk (fr2 3).x 0 none)) (a0.length + 2) (((List.replicate (a0.length + 2) (0 : UInt8)).set 0 (165 : UInt8)).set (a0.length + 1) (90 : UInt8)))]) [0, 4, 18, 19, 20] [(1, 1), (2, 2)] (by kernel_rfl) (by kernel_rfl) rfl ?_
  refine loopL_elim hm (fun st40 fn41 hst42 hfn43 hm => ?_)
  refine GS.loopInv (ι := List UInt8 × Nat × List UInt8) (I := fun ⟨rs38, v20_1, l2_1⟩ => a0.drop v20_1 = rs38 ∧ loopL st40 fn41 rs38 v20_1 l2_1 = some y) (μ := fun ⟨rs38, v20_1, l2_1⟩ => rs38.length) (E := fun ⟨rs38, v20_1, l2_1⟩ => [(0, .slice a0_o a0.length a0_c), (4, .slice (some (Addr.mk (fr2 3).x 0 none)) l2_1.length (a0.length + 2)), (18, .slice a0_o a0.length a0_c), (19, .int .i64 ((a0.length : Nat) : Int)), (20, .int .i64 ((v20_1 : Nat) : Int))]) (M := fun ⟨rs38, v20_1, l2_1⟩ => [(1, r5 a0_o a0), (2, o5 (some (Addr.mk (fr2 3).x 0 none)) (a0.length + 2) l2_1)]) ?_ ⟨a0, 0, (((List.replicate (a0.length + 2) (0 : UInt8)).set 0 (165 : UInt8)).set (a0.length + 1) (90 : UInt8))⟩ ⟨List.drop_zero .., hm⟩
  rintro ⟨rs38, v20_1, l2_1⟩ ⟨hd26, hm⟩ ih39
  cases rs38 with
  | nil =>
    replace hm := (hfn43 _ _).symm.trans hm
    try dsimp only at hm
    refine GS.seq ?_
    refine GS.region (env' := fun _ => [(0, .slice a0_o a0.length a0_c), (4, .slice (some (Addr.mk (fr2 3).x 0 none)) l2_1.length (a0.length + 2)), (18, .slice a0_o a0.length a0_c), (19, .int .i64 ((a0.length : Nat) : Int)), (20, .int .i64 ((v20_1 : Nat) : Int)), (21, .bool (decide (((v20_1 : Nat) : Int) < ((a0.length : Nat) : Int))))]) (mem' := fun _ => [(1, r5 a0_o a0), (2, o5 (some (Addr.mk (fr2 3).x 0 none)) (a0.length + 2) l2_1)]) (RunsTo.mk [] [0, 4, 18, 19, 20, 21] [1, 2] (fun _ => []) (fun _ => by kernel_rfl) (fun _ => trivial)) ?_
    intro _
    refine GS.seq ?_
    refine GS.cond (t := decide (((v20_1 : Nat) : Int) < ((a0.length : Nat) : Int))) rfl rfl (fun h36 => absb h36 (drop_dec0 hd26)) (fun _ => ?_)
    refine GS.exit rfl ?_
    refine GS.seq ?_
    refine grd_elim hm (fun g45 hm => ?_)
    refine grd_elim hm (fun g46 hm => ?_)
    refine GS.know (p := l2_1.length ≤ (a0.length + 2)) (fun w hw => by first | (have h := (hw.ok 2 _ rfl).1.1; rw [List.length_map] at h; exact h) | simpa using (hw.ok 2 _ rfl).1.1) (fun k47 => ?_)
    refine GS.region (env' := fun _ => [(2, .slice (some (Addr.mk (fr2 3).x 0 none)) l2_1.length (a0.length + 2)), (3, .slice (cutOb (some (Addr.mk (fr2 3).x 0 none)) 1 (a0.length + 2) 1) (((l2_1.drop 1).take ((a0.length + 1) - 1)).length) ((a0.length + 2) - 1))]) (mem' := fun _ => [(2, o5 (some (Addr.mk (fr2 3).x 0 none)) (a0.length + 2) l2_1)]) (RunsTo.mkd [(4, { sp := some (.int .i64 ((a0.length + 1 : Nat) : Int)) }), (5, { act := .cut 1 (a0.length + 1) (a0.length + 2), sp := some (.slice (cutOb (some (Addr.mk (fr2 3).x 0 none)) 1 (a0.length + 2) 1) (((l2_1.drop 1).take ((a0.length + 1) - 1)).length) ((a0.length + 2) - 1)) })] [2, 3] [2] (fun _ => [((.int .i64 (IntKind.i64.wrap (((a0.length : Nat) : Int) + 1))) : Value) = .int .i64 ((a0.length + 1 : Nat) : Int), 1 = ((1 : Nat) : Int), ((a0.length + 1 : Nat) : Int) = (((a0.length + 1) : Nat) : Int), (a0.length + 2) = (a0.length + 2), 1 ≤ (a0.length + 1), (a0.length + 1) ≤ (a0.length + 2), (a0.length + 2) ≤ (a0.length + 2), (some (Operand.tmp 35) : Option Operand) = none → (none : Option Operand) = none, ((.slice (if (a0.length + 2) = 1 then some (Addr.mk (fr2 3).x 0 none) else (some (Addr.mk (fr2 3).x 0 none)).map (fun a => a.add (1 * 1))) ((a0.length + 1) - 1) ((a0.length + 2) - 1)) : Value) = .slice (cutOb (some (Addr.mk (fr2 3).x 0 none)) 1 (a0.length + 2) 1) (((l2_1.drop 1).take ((a0.length + 1) - 1)).length) ((a0.length + 2) - 1)]) (by kernel_rfl) (by kernel_rfl) (fun _ => by kernel_rfl) (fun _ => ⟨natw2 g6, rfl, rfl, rfl, g46, (Nat.le_trans g45 k47), (Nat.le_refl _), (by intro h; first | rfl | cases h), slen (by simp only [List.length_take, List.length_drop]; have h1 : (a0.length + 1) ≤ l2_1.length := g45; have h2 : 1 ≤ (a0.length + 1) := g46; omega), trivial⟩)) ?_
    intro _
    refine GS.setMem (mem' := [(2, r5 (some (Addr.mk (fr2 3).x 0 none)) l2_1)]) (fun w hw => hw.downAt (k := 2) rfl Cov.osl_rd rfl rfl) ?_
    refine GS.setMem (mem' := [(2, r5 (some (Addr.mk (fr2 3).x 0 none)) l2_1), (3, .rd (cutOb (some (Addr.mk (fr2 3).x 0 none)) 1 (a0.length + 2) 1) 1 (((List.map rB l2_1).drop 1).take ((a0.length + 1) - 1)))]) (fun w hw => Sat.addCov (k0 := 2) hw rfl rfl rfl (rd_cut g46 (Nat.le_trans g45 k47)) rfl) ?_
    refine GS.conv (mem' := [(2, r5 (some (Addr.mk (fr2 3).x 0 none)) l2_1), (3, r5 (cutOb (some (Addr.mk (fr2 3).x 0 none)) 1 (a0.length + 2) 1) ((l2_1.drop 1).take ((a0.length + 1) - 1)))]) rfl (congrArg (fun rr : List (List Value) => ([(2, r5 (some (Addr.mk (fr2 3).x 0 none)) l2_1), (3, .rd (cutOb (some (Addr.mk (fr2 3).x 0 none)) 1 (a0.length + 2) 1) 1 rr)] : List (Nat × Ent))) (show ((List.map rB l2_1).drop 1).take ((a0.length + 1) - 1) = List.map rB ((l2_1.drop 1).take ((a0.length + 1) - 1)) from (by simp only [List.drop_zero, Nat.sub_zero, List.map_take, List.map_drop]))) ?_
    refine GS.setMem (mem' := [(2, r5 (some (Addr.mk (fr2 3).x 0 none)) l2_1), (3, r5 (cutOb (some (Addr.mk (fr2 3).x 0 none)) 1 (a0.length + 2) 1) ((l2_1.drop 1).take ((a0.length + 1) - 1))), (4, Ent.fact (l2_1.length ≤ (a0.length + 2)))]) (fun w hw => Sat.addFact hw rfl k47) ?_
    refine GS.setMem (mem' := [(2, r5 (some (Addr.mk (fr2 3).x 0 none)) l2_1), (3, r5 (cutOb (some (Addr.mk (fr2 3).x 0 none)) 1 (a0.length + 2) 1) ((l2_1.drop 1).take ((a0.length + 1) - 1))), (4, Ent.fact (l2_1.length ≤ (a0.length + 2))), (5, Ent.fact (((l2_1.drop 1).take ((a0.length + 1) - 1)).length ≤ (a0.length + 2) - 1))]) (fun w hw => Sat.addFact hw rfl (by simp only [List.length_take, List.length_drop]; have h1 : (a0.length + 1) ≤ (a0.length + 2) := (Nat.le_trans g45 k47); have h2 : 1 ≤ (a0.length + 1) := g46; omega)) ?_
    have hy := Option.some.inj hm
    subst hy
    refine GS.ret (fn := Try.f12) [0, 0] [.slice (some (Addr.mk (fr2 3).x 0 none)) l2_1.length (a0.length + 2), .slice (cutOb (some (Addr.mk (fr2 3).x 0 none)) 1 (a0.length + 2) 1) (((l2_1.drop 1).take ((a0.length + 1) - 1)).length) ((a0.length + 2) - 1)] [] rfl Try.func12 (by kernel_rfl) trivial (fun w' hs => ?_)
    exact ⟨⟨some (Addr.mk (fr2 3).x 0 none), (a0.length + 2), cutOb (some (Addr.mk (fr2 3).x 0 none)) 1 (a0.length + 2) 1, (a0.length + 2) - 1⟩, rfl, hs.turnedG (ks := [2, 4, 3, 5]) rfl rfl⟩
  | cons x28 rs38 =>
    replace hm := (hst42 _ _ _ _).symm.trans hm
    try dsimp only at hm
    refine GS.seq ?_
    refine GS.region (env' := fun _ => [(0, .slice a0_o a0.length a0_c), (4, .slice (some (Addr.mk (fr2 3).x 0 none)) l2_1.length (a0.length + 2)), (18, .slice a0_o a0.length a0_c), (19, .int .i64 ((a0.length : Nat) : Int)), (20, .int .i64 ((v20_1 : Nat) : Int)), (21, .bool (decide (((v20_1 : Nat) : Int) < ((a0.length : Nat) : Int))))]) (mem' := fun _ => [(1, r5 a0_o a0), (2, o5 (some (Addr.mk (fr2 3).x 0 none)) (a0.length + 2) l2_1)]) (RunsTo.mk [] [0, 4, 18, 19, 20, 21] [1, 2] (fun _ => []) (fun _ => by kernel_rfl) (fun _ => trivial)) ?_
    intro _
    refine GS.seq ?_
    refine GS.cond (t := decide (((v20_1 : Nat) : Int) < ((a0.length : Nat) : Int))) rfl rfl (fun _ => ?_) (fun h30 => absb (drop_dec hd26) h30)
    refine GS.skip ?_
    refine GS.seq ?_
    refine GS.block ?_
    refine GS.seq ?_
    refine GS.region (env' := fun _ => [(0, .slice a0_o a0.length a0_c), (4, .slice (some (Addr.mk (fr2 3).x 0 none)) l2_1.length (a0.length + 2)), (5, .int .i64 ((v20_1 : Nat) : Int)), (6, .int .u8 ((x28.toNat : Nat) : Int)), (18, .slice a0_o a0.length a0_c), (19, .int .i64 ((a0.length : Nat) : Int)), (20, .int .i64 ((v20_1 : Nat) : Int))]) (mem' := fun _ => [(1, r5 a0_o a0), (2, o5 (some (Addr.mk (fr2 3).x 0 none)) (a0.length + 2) l2_1)]) (RunsTo.mk [(1, { act := .idx 1 v20_1 }), (2, { act := .load 1 v20_1 0 [.int .u8 ((x28.toNat : Nat) : Int)] })] [0, 4, 5, 6, 18, 19, 20] [1, 2] (fun _ => [a0_o = a0_o, a0.length = (List.map rB a0).length, (((v20_1 : Nat) : Int) : Int) = ((v20_1 : Nat) : Int), v20_1 < a0.length, blk a0_o = blk a0_o, offs a0_o + v20_1 * 1 = offs a0_o + (v20_1 * 1 + 0), (List.map rB a0)[v20_1]? = some [.int .u8 ((x28.toNat : Nat) : Int)]]) (fun _ => by kernel_rfl) (fun _ => ⟨rfl, mlen rB a0, rfl, (drop_lt hd26), rfl, rfl, map_drop rB hd26, trivial⟩)) ?_
    intro _
    refine grd_elim hm (fun g33 hm => ?_)
    refine GS.region (env' := fun _ => [(0, .slice a0_o a0.length a0_c), (4, .slice (some (Addr.mk (fr2 3).x 0 none)) l2_1.length (a0.length + 2)), (18, .slice a0_o a0.length a0_c), (19, .int .i64 ((a0.length : Nat) : Int)), (20, .int .i64 ((v20_1 : Nat) : Int))]) (mem' := fun _ => [(1, r5 a0_o a0), (2, .osl (some (Addr.mk (fr2 3).x 0 none)) (a0.length + 2) 5 1 ((List.map rB l2_1).set (v20_1 + 1) [.int .u8 ((x28.toNat : Nat) : Int)]))]) (RunsTo.mk [(2, { sp := some (.int .i64 ((v20_1 + 1 : Nat) : Int)) }), (4, { act := .idx 2 (v20_1 + 1) }), (5, { act := .store (v20_1 + 1) 0 [.int .u8 (((l2_1.getD (v20_1 + 1) 0).toNat : Nat) : Int)], key := some 2 })] [0, 4, 18, 19, 20] [1, 2] (fun _ => [((.int .i64 (IntKind.i64.wrap (((v20_1 : Nat) : Int) + 1))) : Value) = .int .i64 ((v20_1 + 1 : Nat) : Int), some (Addr.mk (fr2 3).x 0 none) = some (Addr.mk (fr2 3).x 0 none), l2_1.length = (List.map rB l2_1).length, (((v20_1 + 1 : Nat) : Int) : Int) = (((v20_1 + 1) : Nat) : Int), (v20_1 + 1) < l2_1.length, blk (some (Addr.mk (fr2 3).x 0 none)) = blk (some (Addr.mk (fr2 3).x 0 none)), offs (some (Addr.mk (fr2 3).x 0 none)) + (v20_1 + 1) * 1 = offs (some (Addr.mk (fr2 3).x 0 none)) + ((v20_1 + 1) * 1 + 0), (List.map rB l2_1)[(v20_1 + 1)]? = some [.int .u8 (((l2_1.getD (v20_1 + 1) 0).toNat : Nat) : Int)], ((.int .u8 ((x28.toNat : Nat) : Int)) : Value).cells.toList.all Value.oneCell' = true]) (fun _ => by kernel_rfl) (fun _ => ⟨natw (drop_lt hd26) g27, rfl, mlen rB l2_1, rfl, g33, rfl, rfl, map_at rB 0 g33, rfl, trivial⟩)) ?_
    intro _
    refine GS.conv (mem' := [(1, r5 a0_o a0), (2, o5 (some (Addr.mk (fr2 3).x 0 none)) (a0.length + 2) (l2_1.set (v20_1 + 1) x28))]) rfl (congrArg (fun rr : List (List Value) => ([(1, r5 a0_o a0), (2, .osl (some (Addr.mk (fr2 3).x 0 none)) (a0.length + 2) 5 1 rr)] : List (Nat × Ent))) (show (List.map rB l2_1).set (v20_1 + 1) [.int .u8 ((x28.toNat : Nat) : Int)] = List.map rB (l2_1.set (v20_1 + 1) x28) from mset rB l2_1 (v20_1 + 1) x28)) ?_
    refine GS.inBlock ?_
    refine GS.conv (env' := [(0, .slice a0_o a0.length a0_c), (4, .slice (some (Addr.mk (fr2 3).x 0 none)) ((l2_1.set (v20_1 + 1) x28).length) (a0.length + 2)), (18, .slice a0_o a0.length a0_c), (19, .int .i64 ((a0.length : Nat) : Int)), (20, .int .i64 ((v20_1 : Nat) : Int))]) (congrArg (fun vhole : Value => [(0, .slice a0_o a0.length a0_c), (4, vhole), (18, .slice a0_o a0.length a0_c), (19, .int .i64 ((a0.length : Nat) : Int)), (20, .int .i64 ((v20_1 : Nat) : Int))]) (show ((.slice (some (Addr.mk (fr2 3).x 0 none)) l2_1.length (a0.length + 2)) : Value) = .slice (some (Addr.mk (fr2 3).x 0 none)) ((l2_1.set (v20_1 + 1) x28).length) (a0.length + 2) from (by simp []))) rfl ?_
    refine GS.region (env' := fun _ => [(0, .slice a0_o a0.length a0_c), (4, .slice (some (Addr.mk (fr2 3).x 0 none)) ((l2_1.set (v20_1 + 1) x28).length) (a0.length + 2)), (18, .slice a0_o a0.length a0_c), (19, .int .i64 ((a0.length : Nat) : Int)), (20, .int .i64 ((v20_1 + 1 : Nat) : Int))]) (mem' := fun _ => [(1, r5 a0_o a0), (2, o5 (some (Addr.mk (fr2 3).x 0 none)) (a0.length + 2) (l2_1.set (v20_1 + 1) x28))]) (RunsTo.mk [(0, { sp := some (.int .i64 ((v20_1 + 1 : Nat) : Int)) })] [0, 4, 18, 19, 20] [1, 2] (fun _ => [((.int .i64 (IntKind.i64.wrap (((v20_1 : Nat) : Int) + 1))) : Value) = .int .i64 ((v20_1 + 1 : Nat) : Int)]) (fun _ => by kernel_rfl) (fun _ => ⟨natw (drop_lt hd26) g27, trivial⟩)) ?_
    intro _
    refine GS.inLoop ?_
    refine GS.rekey (env' := [(0, .slice a0_o a0.length a0_c), (4, .slice (some (Addr.mk (fr2 3).x 0 none)) ((l2_1.set (v20_1 + 1) x28).length) (a0.length + 2)), (18, .slice a0_o a0.length a0_c), (19, .int .i64 ((a0.length : Nat) : Int)), (20, .int .i64 ((v20_1 + 1 : Nat) : Int))]) (mem' := [(1, r5 a0_o a0), (2, o5 (some (Addr.mk (fr2 3).x 0 none)) (a0.length + 2) (l2_1.set (v20_1 + 1) x28))]) [0, 4, 18, 19, 20] [(1, 1), (2, 2)] (by kernel_rfl) (by kernel_rfl) rfl ?_
    exact ih39 ⟨rs38, v20_1 + 1, (l2_1.set (v20_1 + 1) x28)⟩ ⟨drop_next hd26, hm⟩ (Nat.lt_succ_self _)

theorem w_tholeref01_Crc (F : Nat) (a0_o : Option Addr) (a0_c : Nat) (a0 : List UInt8) {y : Int} (hm : m_tholeref01_Crc F a0 = some y) : CallG Try.prog 14 #[.slice a0_o a0.length a0_c] (X := Unit) (fun (_ : Unit) => .int .u32 y) [] [r5 a0_o a0] (fun (_ : Unit) => []) := by
  intro w hg
  rw [m_tholeref01_Crc] at hm
  refine GS.start (S := mayT [] [r5 a0_o a0]) (mem := [(1, r5 a0_o a0)]) Try.func14 rfl Try.ntmps14 (Nat.le_of_ble_eq_true rfl) (hg.start rfl) ?_
  refine GS.conv (env' := [(0, .slice a0_o a0.length a0_c)]) rfl rfl ?_
  refine GS.seq ?_
  refine GS.region (env' := fun _ => [(0, .slice a0_o a0.length a0_c)]) (mem' := fun _ => [(1, r5 a0_o a0)]) (RunsTo.mk [] [0] [1] (fun _ => []) (fun _ => by kernel_rfl) (fun _ => trivial)) ?_
  intro _
  refine GS.seq ?_
  refine GS.region (env' := fun _ => [(0, .slice a0_o a0.length a0_c), (3, .int .u32 4294967295)]) (mem' := fun _ => [(1, r5 a0_o a0)]) (RunsTo.mk [] [0, 3] [1] (fun _ => []) (fun _ => by kernel_rfl) (fun _ => trivial)) ?_
  intro _
  refine GS.seq ?_
  refine GS.seq ?_
  refine GS.region (env' := fun _ => [(3, .int .u32 4294967295), (8, .slice a0_o a0.length a0_c), (9, .int .i64 ((a0.length : Nat) : Int)), (10, .int .i64 0)]) (mem' := fun _ => [(1, r5 a0_o a0)]) (RunsTo.mk [] [3, 8, 9, 10] [1] (fun _ => []) (fun _ => by kernel_rfl) (fun _ => trivial)) ?_
  intro _
  refine GS.block ?_
  refine GS.loop ?_
  refine grd_elim hm (fun g148 hm => ?_)
  refine GS.rekey (env' := [(3, .int .u32 4294967295), (8, .slice a0_o a0.length a0_c), (9, .int .i64 ((a0.length : Nat) : Int)), (10, .int .i64 0)]) (mem' := [(1, r5 a0_o a0)]) [3, 8, 9, 10] [(1, 1)] (by kernel_rfl) (by kernel_rfl) rfl ?_
  refine loopL_elim hm (fun st223 fn224 hst225 hfn226 hm => ?_)
  refine GS.loopInv (ι := List UInt8 × Int × Nat) (I := fun ⟨rs221, v3_1, v10_1⟩ => a0.drop v10_1 = rs221 ∧ loopL st223 fn224 rs221 v10_1 v3_1 = some y) (μ := fun ⟨rs221, v3_1, v10_1⟩ => rs221.length) (E := fun ⟨rs221, v3_1, v10_1⟩ => [(3, .int .u32 v3_1), (8, .slice a0_o a0.length a0_c), (9, .int .i64 ((a0.length : Nat) : Int)), (10, .int .i64 ((v10_1 : Nat) : Int))]) (M := fun ⟨rs221, v3_1, v10_1⟩ => [(1, r5 a0_o a0)]) ?_ ⟨a0, 4294967295, 0⟩ ⟨List.drop_zero .., hm⟩
  rintro ⟨rs221, v3_1, v10_1⟩ ⟨hd147, hm⟩ ih222
  cases rs221 with
  | nil =>
    replace hm := (hfn226 _ _).symm.trans hm
    try dsimp only at hm
    refine GS.seq ?_
    refine GS.region (env' := fun _ => [(3, .int .u32 v3_1), (8, .slice a0_o a0.length a0_c), (9, .int .i64 ((a0.length : Nat) : Int)), (10, .int .i64 ((v10_1 : Nat) : Int)), (11, .bool (decide (((v10_1 : Nat) : Int) < ((a0.length : Nat) : Int))))]) (mem' := fun _ => [(1, r5 a0_o a0)]) (RunsTo.mk [] [3, 8, 9, 10, 11] [1] (fun _ => []) (fun _ => by kernel_rfl) (fun _ => trivial)) ?_
    intro _
    refine GS.seq ?_
    refine GS.cond (t := decide (((v10_1 : Nat) : Int) < ((a0.length : Nat) : Int))) rfl rfl (fun h219 => absb h219 (drop_dec0 hd147)) (fun _ => ?_)
    refine GS.exit rfl ?_
    refine GS.seq ?_
    refine GS.region (env' := fun _ => [(2, .int .u32 (ixor .u32 v3_1 4294967295))]) (mem' := fun _ => []) (RunsTo.mk [] [2] [] (fun _ => []) (fun _ => by kernel_rfl) (fun _ => trivial)) ?_
    intro _
    have hy := Option.some.inj hm
    subst hy
    refine GS.ret (fn := Try.f14) [0] [.int .u32 (ixor .u32 v3_1 4294967295)] [] rfl Try.func14 (by kernel_rfl) trivial (fun w' hs => ?_)
    exact ⟨(), rfl, hs.turnedG (ks := []) rfl rfl⟩
  | cons x149 rs221 =>
    replace hm := (hst225 _ _ _ _).symm.trans hm
    try dsimp only at hm
    refine GS.seq ?_
    refine GS.region (env' := fun _ => [(3, .int .u32 v3_1), (8, .slice a0_o a0.length a0_c), (9, .int .i64 ((a0.length : Nat) : Int)), (10, .int .i64 ((v10_1 : Nat) : Int)), (11, .bool (decide (((v10_1 : Nat) : Int) < ((a0.length : Nat) : Int))))]) (mem' := fun _ => [(1, r5 a0_o a0)]) (RunsTo.mk [] [3, 8, 9, 10, 11] [1] (fun _ => []) (fun _ => by kernel_rfl) (fun _ => trivial)) ?_
    intro _
    refine GS.seq ?_
    refine GS.cond (t := decide (((v10_1 : Nat) : Int) < ((a0.length : Nat) : Int))) rfl rfl (fun _ => ?_) (fun h151 => absb (drop_dec hd147) h151)
    refine GS.skip ?_
    refine GS.seq ?_
    refine GS.block ?_
    refine GS.seq ?_
    refine GS.region (env' := fun _ => [(3, .int .u32 v3_1), (5, .int .u8 ((x149.toNat : Nat) : Int)), (8, .slice a0_o a0.length a0_c), (9, .int .i64 ((a0.length : Nat) : Int)), (10, .int .i64 ((v10_1 : Nat) : Int))]) (mem' := fun _ => [(1, r5 a0_o a0)]) (RunsTo.mk [(0, { act := .idx 1 v10_1 }), (1, { act := .load 1 v10_1 0 [.int .u8 ((x149.toNat : Nat) : Int)] })] [3, 5, 8, 9, 10] [1] (fun _ => [a0_o = a0_o, a0.length = (List.map rB a0).length, (((v10_1 : Nat) : Int) : Int) = ((v10_1 : Nat) : Int), v10_1 < a0.length, blk a0_o = blk a0_o, offs a0_o + v10_1 * 1 = offs a0_o + (v10_1 * 1 + 0), (List.map rB a0)[v10_1]? = some [.int .u8 ((x149.toNat : Nat) : Int)]]) (fun _ => by kernel_rfl) (fun _ => ⟨rfl, mlen rB a0, rfl, (drop_lt hd147), rfl, rfl, map_drop rB hd147, trivial⟩)) ?_
    intro _
    refine GS.seq ?_
    refine GS.region (env' := fun _ => [(3, .int .u32 v3_1), (5, .int .u8 ((x149.toNat : Nat) : Int)), (6, .int .i64 0), (8, .slice a0_o a0.length a0_c), (9, .int .i64 ((a0.length : Nat) : Int)), (10, .int .i64 ((v10_1 : Nat) : Int))]) (mem' := fun _ => [(1, r5 a0_o a0)]) (RunsTo.mk [] [3, 5, 6, 8, 9, 10] [1] (fun _ => []) (fun _ => by kernel_rfl) (fun _ => trivial)) ?_
    intro _
    refine GS.block ?_
    refine GS.loop ?_
    refine grd_elim hm (fun g188 hm => ?_)
    refine GS.rekey (env' := [(3, .int .u32 v3_1), (5, .int .u8 ((x149.toNat : Nat) : Int)), (6, .int .i64 0), (8, .slice a0_o a0.length a0_c), (9, .int .i64 ((a0.length : Nat) : Int)), (10, .int .i64 ((v10_1 : Nat) : Int))]) (mem' := [(1, r5 a0_o a0)]) [3, 5, 6, 8, 9, 10] [(1, 1)] (by kernel_rfl) (by kernel_rfl) rfl ?_
    refine loopC_elim hm (fun st213 fn214 hst215 hfn216 hm => ?_)
    refine GS.loopInv (ι := Nat × Int × Nat) (I := fun ⟨rs211, v3_16, v6_16⟩ => ((8) - ((v6_16 : Nat) : Int) : Int).toNat = rs211 ∧ loopC st213 fn214 rs211 v6_16 v3_16 = some y) (μ := fun ⟨rs211, v3_16, v6_16⟩ => rs211) (E := fun ⟨rs211, v3_16, v6_16⟩ => [(3, .int .u32 v3_16), (5, .int .u8 ((x149.toNat : Nat) : Int)), (6, .int .i64 ((v6_16 : Nat) : Int)), (8, .slice a0_o a0.length a0_c), (9, .int .i64 ((a0.length : Nat) : Int)), (10, .int .i64 ((v10_1 : Nat) : Int))]) (M := fun ⟨rs211, v3_16, v6_16⟩ => [(1, r5 a0_o a0)]) ?_ ⟨(Int.toNat (8 - ((0 : Nat) : Int))), v3_1, 0⟩ ⟨rfl, hm⟩
    rintro ⟨rs211, v3_16, v6_16⟩ ⟨hd187, hm⟩ ih212
    cases rs211 with
    | zero =>
      replace hm := (hfn216 _ _).symm.trans hm
      try dsimp only at hm
      refine GS.seq ?_
      refine GS.seq ?_
      refine GS.region (env' := fun _ => [(3, .int .u32 v3_16), (5, .int .u8 ((x149.toNat : Nat) : Int)), (6, .int .i64 ((v6_16 : Nat) : Int)), (8, .slice a0_o a0.length a0_c), (9, .int .i64 ((a0.length : Nat) : Int)), (10, .int .i64 ((v10_1 : Nat) : Int)), (15, .bool (decide (((v6_16 : Nat) : Int) < 8)))]) (mem' := fun _ => [(1, r5 a0_o a0)]) (RunsTo.mk [] [3, 5, 6, 8, 9, 10, 15] [1] (fun _ => []) (fun _ => by kernel_rfl) (fun _ => trivial)) ?_
      intro _
      refine GS.cond (t := decide (((v6_16 : Nat) : Int) < 8)) rfl rfl (fun h209 => absb h209 (cnt0 hd187)) (fun _ => ?_)
      refine GS.exit rfl ?_
      refine GS.inBlock ?_
      refine GS.region (env' := fun _ => [(3, .int .u32 v3_16), (8, .slice a0_o a0.length a0_c), (9, .int .i64 ((a0.length : Nat) : Int)), (10, .int .i64 ((v10_1 + 1 : Nat) : Int))]) (mem' := fun _ => [(1, r5 a0_o a0)]) (RunsTo.mk [(0, { sp := some (.int .i64 ((v10_1 + 1 : Nat) : Int)) })] [3, 8, 9, 10] [1] (fun _ => [((.int .i64 (IntKind.i64.wrap (((v10_1 : Nat) : Int) + 1))) : Value) = .int .i64 ((v10_1 + 1 : Nat) : Int)]) (fun _ => by kernel_rfl) (fun _ => ⟨natw (drop_lt hd147) g148, trivial⟩)) ?_
      intro _
      refine GS.inLoop ?_
      refine GS.rekey (env' := [(3, .int .u32 v3_16), (8, .slice a0_o a0.length a0_c), (9, .int .i64 ((a0.length : Nat) : Int)), (10, .int .i64 ((v10_1 + 1 : Nat) : Int))]) (mem' := [(1, r5 a0_o a0)]) [3, 8, 9, 10] [(1, 1)] (by kernel_rfl) (by kernel_rfl) rfl ?_
      exact ih222 ⟨rs221, v3_16, v10_1 + 1⟩ ⟨drop_next hd147, hm⟩ (Nat.lt_succ_self _)
    | succ rs211 =>
      replace hm := (hst215 _ _ _).symm.trans hm
      try dsimp only at hm
      refine GS.seq ?_
      refine GS.seq ?_
      refine GS.region (env' := fun _ => [(3, .int .u32 v3_16), (5, .int .u8 ((x149.toNat : Nat) : Int)), (6, .int .i64 ((v6_16 : Nat) : Int)), (8, .slice a0_o a0.length a0_c), (9, .int .i64 ((a0.length : Nat) : Int)), (10, .int .i64 ((v10_1 : Nat) : Int)), (15, .bool (decide (((v6_16 : Nat) : Int) < 8)))]) (mem' := fun _ => [(1, r5 a0_o a0)]) (RunsTo.mk [] [3, 5, 6, 8, 9, 10, 15] [1] (fun _ => []) (fun _ => by kernel_rfl) (fun _ => trivial)) ?_
      intro _
      refine GS.cond (t := decide (((v6_16 : Nat) : Int) < 8)) rfl rfl (fun _ => ?_) (fun h190 => absb (cnt1 hd187) h190)
      refine GS.skip ?_
      refine GS.seq ?_
      refine GS.block ?_
      refine GS.seq ?_
      refine grd_elim hm (fun g192 hm => ?_)
      refine GS.region (env' := fun _ => [(3, .int .u32 v3_16), (5, .int .u8 ((x149.toNat : Nat) : Int)), (6, .int .i64 ((v6_16 : Nat) : Int)), (7, .int .u32 (iand .u32 (ixor .u32 v3_16 (IntKind.u32.wrap (Int.fdiv ((x149.toNat : Nat) : Int) (2 ^ (min (Int.toNat (IntKind.u64.wrap ((v6_16 : Nat) : Int))) 8))))) 1)), (8, .slice a0_o a0.length a0_c), (9, .int .i64 ((a0.length : Nat) : Int)), (10, .int .i64 ((v10_1 : Nat) : Int))]) (mem' := fun _ => [(1, r5 a0_o a0)]) (RunsTo.mk [(4, { act := .shift })] [3, 5, 6, 7, 8, 9, 10] [1] (fun _ => [0 ≤ (IntKind.u64.wrap ((v6_16 : Nat) : Int))]) (fun _ => by kernel_rfl) (fun _ => ⟨g192, trivial⟩)) ?_
      intro _
      refine GS.seq ?_
      refine bnd_elim hm (fun y193 e194 hm => ?_)
      refine GS.conv (env' := [(3, .int .u32 v3_16), (5, .int .u8 ((x149.toNat : Nat) : Int)), (6, .int .i64 ((v6_16 : Nat) : Int)), (7, .int .u32 y193), (8, .slice a0_o a0.length a0_c), (9, .int .i64 ((a0.length : Nat) : Int)), (10, .int .i64 ((v10_1 : Nat) : Int))]) (congrArg (fun vhole : Int => ([(3, .int .u32 v3_16), (5, .int .u8 ((x149.toNat : Nat) : Int)), (6, .int .i64 ((v6_16 : Nat) : Int)), (7, .int .u32 vhole), (8, .slice a0_o a0.length a0_c), (9, .int .i64 ((a0.length : Nat) : Int)), (10, .int .i64 ((v10_1 : Nat) : Int))] : List (Nat × Value))) (Option.some.inj e194)) rfl ?_
      refine GS.region (env' := fun _ => [(3, .int .u32 (Int.fdiv v3_16 (2 ^ 1))), (5, .int .u8 ((x149.toNat : Nat) : Int)), (6, .int .i64 ((v6_16 : Nat) : Int)), (7, .int .u32 y193), (8, .slice a0_o a0.length a0_c), (9, .int .i64 ((a0.length : Nat) : Int)), (10, .int .i64 ((v10_1 : Nat) : Int))]) (mem' := fun _ => [(1, r5 a0_o a0)]) (RunsTo.mk [] [3, 5, 6, 7, 8, 9, 10] [1] (fun _ => []) (fun _ => by kernel_rfl) (fun _ => trivial)) ?_
      intro _
      refine GS.seq ?_
      refine GS.region (env' := fun _ => [(3, .int .u32 (Int.fdiv v3_16 (2 ^ 1))), (5, .int .u8 ((x149.toNat : Nat) : Int)), (6, .int .i64 ((v6_16 : Nat) : Int)), (8, .slice a0_o a0.length a0_c), (9, .int .i64 ((a0.length : Nat) : Int)), (10, .int .i64 ((v10_1 : Nat) : Int)), (29, .bool (y193 == 1))]) (mem' := fun _ => [(1, r5 a0_o a0)]) (RunsTo.mk [] [3, 5, 6, 8, 9, 10, 29] [1] (fun _ => []) (fun _ => by kernel_rfl) (fun _ => trivial)) ?_
      intro _
      refine GS.cond (t := y193 == 1) rfl rfl (fun h197 => ?_) (fun h197 => ?_)
      · replace hm := br_t h197 hm
        refine GS.region (env' := fun _ => [(3, .int .u32 (ixor .u32 (Int.fdiv v3_16 (2 ^ 1)) 2197175160)), (5, .int .u8 ((x149.toNat : Nat) : Int)), (6, .int .i64 ((v6_16 : Nat) : Int)), (8, .slice a0_o a0.length a0_c), (9, .int .i64 ((a0.length : Nat) : Int)), (10, .int .i64 ((v10_1 : Nat) : Int))]) (mem' := fun _ => [(1, r5 a0_o a0)]) (RunsTo.mk [] [3, 5, 6, 8, 9, 10] [1] (fun _ => []) (fun _ => by kernel_rfl) (fun _ => trivial)) ?_
        intro _
        refine GS.inBlock ?_
        refine GS.region (env' := fun _ => [(3, .int .u32 (ixor .u32 (Int.fdiv v3_16 (2 ^ 1)) 2197175160)), (5, .int .u8 ((x149.toNat : Nat) : Int)), (6, .int .i64 ((v6_16 + 1 : Nat) : Int)), (8, .slice a0_o a0.length a0_c), (9, .int .i64 ((a0.length : Nat) : Int)), (10, .int .i64 ((v10_1 : Nat) : Int))]) (mem' := fun _ => [(1, r5 a0_o a0)]) (RunsTo.mk [(1, { sp := some (.int .i64 ((v6_16 + 1 : Nat) : Int)) })] [3, 5, 6, 8, 9, 10] [1] (fun _ => [((.int .i64 (IntKind.i64.wrap (((v6_16 : Nat) : Int) + 1))) : Value) = .int .i64 ((v6_16 + 1 : Nat) : Int)]) (fun _ => by kernel_rfl) (fun _ => ⟨natwB (cnt1 hd187) g188, trivial⟩)) ?_
        intro _
        refine GS.inLoop ?_
        refine GS.rekey (env' := [(3, .int .u32 (ixor .u32 (Int.fdiv v3_16 (2 ^ 1)) 2197175160)), (5, .int .u8 ((x149.toNat : Nat) : Int)), (6, .int .i64 ((v6_16 + 1 : Nat) : Int)), (8, .slice a0_o a0.length a0_c), (9, .int .i64 ((a0.length : Nat) : Int)), (10, .int .i64 ((v10_1 : Nat) : Int))]) (mem' := [(1, r5 a0_o a0)]) [3, 5, 6, 8, 9, 10] [(1, 1)] (by kernel_rfl) (by kernel_rfl) rfl ?_
        exact ih212 ⟨rs211, (ixor .u32 (Int.fdiv v3_16 (2 ^ 1)) 2197175160), v6_16 + 1⟩ ⟨cntN hd187, hm⟩ (Nat.lt_succ_self _)
      · replace hm := br_f h197 hm
        refine GS.skip ?_
        refine GS.inBlock ?_
        refine GS.region (env' := fun _ => [(3, .int .u32 (Int.fdiv v3_16 (2 ^ 1))), (5, .int .u8 ((x149.toNat : Nat) : Int)), (6, .int .i64 ((v6_16 + 1 : Nat) : Int)), (8, .slice a0_o a0.length a0_c), (9, .int .i64 ((a0.length : Nat) : Int)), (10, .int .i64 ((v10_1 : Nat) : Int))]) (mem' := fun _ => [(1, r5 a0_o a0)]) (RunsTo.mk [(1, { sp := some (.int .i64 ((v6_16 + 1 : Nat) : Int)) })] [3, 5, 6, 8, 9, 10] [1] (fun _ => [((.int .i64 (IntKind.i64.wrap (((v6_16 : Nat) : Int) + 1))) : Value) = .int .i64 ((v6_16 + 1 : Nat) : Int)]) (fun _ => by kernel_rfl) (fun _ => ⟨natwB (cnt1 hd187) g188, trivial⟩)) ?_
        intro _
        refine GS.inLoop ?_
        refine GS.rekey (env' := [(3, .int .u32 (Int.fdiv v3_16 (2 ^ 1))), (5, .int .u8 ((x149.toNat : Nat) : Int)), (6, .int .i64 ((v6_16 + 1 : Nat) : Int)), (8, .slice a0_o a0.length a0_c), (9, .int .i64 ((a0.length : Nat) : Int)), (10, .int .i64 ((v10_1 : Nat) : Int))]) (mem' := [(1, r5 a0_o a0)]) [3, 5, 6, 8, 9, 10] [(1, 1)] (by kernel_rfl) (by kernel_rfl) rfl ?_
        exact ih212 ⟨rs211, (Int.fdiv v3_16 (2 ^ 1)), v6_16 + 1⟩ ⟨cntN hd187, hm⟩ (Nat.lt_succ_self _)

theorem w_tholeref01_primes (F : Nat) (a0 : Int) {y : List Int} (hm : m_tholeref01_primes F a0 = some y) : CallG Try.prog 31 #[.int .i64 a0] (X := Option Addr × Nat) (fun ⟨x0, x1⟩ => .slice x0 y.length x1) [] [] (fun ⟨x0, x1⟩ => [o67 x0 x1 y]) := by
  intro w hg
  rw [m_tholeref01_primes] at hm
  refine GS.start (S := mayT [] []) (mem := []) Try.func31 rfl Try.ntmps31 (Nat.le_of_ble_eq_true rfl) (hg.start rfl) ?_
  refine GS.conv (env' := [(0, .int .i64 a0)]) rfl rfl ?_
  refine GS.seq ?_
  refine GS.region (env' := fun _ => [(0, .int .i64 a0)]) (mem' := fun _ => []) (RunsTo.mk [] [0] [] (fun _ => []) (fun _ => by kernel_rfl) (fun _ => trivial)) ?_
  intro _
  refine GS.seq ?_
  refine GS.region (env' := fun _ => [(0, .int .i64 a0), (3, .slice none 0 0)]) (mem' := fun _ => []) (RunsTo.mk [] [0, 3] [] (fun _ => []) (fun _ => by kernel_rfl) (fun _ => trivial)) ?_
  intro _
  refine GS.seq ?_
  refine GS.seq ?_
  refine GS.region (env' := fun _ => [(0, .int .i64 a0), (3, .slice none 0 0), (4, .int .u64 2)]) (mem' := fun _ => []) (RunsTo.mk [] [0, 3, 4] [] (fun _ => []) (fun _ => by kernel_rfl) (fun _ => trivial)) ?_
  intro _
  refine GS.block ?_
  refine GS.loop ?_
  refine GS.setMem (mem' := [(20001, o67 none 0 ([] : List Int))]) (fun w hw => Sat.addNil hw rfl) ?_
  refine GS.rekey (env' := [(0, .int .i64 a0), (3, .slice none 0 0), (4, .int .u64 2)]) (mem' := [(20000, o67 none 0 ([] : List Int))]) [0, 3, 4] [(20000, 20001)] (by kernel_rfl) (by kernel_rfl) rfl ?_
  refine loopW_elim hm (fun st175 hst177 hm => ?_)
  refine GS.loopInv (ι := Nat × Int × List Int × Option Addr × Nat) (I := fun ⟨rs173, v4_1, l20000_1, o20000_1, k20000_1⟩ => loopW st175 rs173 (v4_1, l20000_1) = some y) (μ := fun ⟨rs173, v4_1, l20000_1, o20000_1, k20000_1⟩ => rs173) (E := fun ⟨rs173, v4_1, l20000_1, o20000_1, k20000_1⟩ => [(0, .int .i64 a0), (3, .slice o20000_1 l20000_1.length k20000_1), (4, .int .u64 v4_1)]) (M := fun ⟨rs173, v4_1, l20000_1, o20000_1, k20000_1⟩ => [(20000, o67 o20000_1 k20000_1 l20000_1)]) ?_ ⟨F, 2, ([] : List Int), none, 0⟩ hm
  rintro ⟨rs173, v4_1, l20000_1, o20000_1, k20000_1⟩ hm ih174
  cases rs173 with
  | zero => cases hm
  | succ rs173 =>
    replace hm := (hst177 _ _).symm.trans hm
    try dsimp only at hm
    refine GS.seq ?_
    refine GS.seq ?_
    refine GS.region (env' := fun _ => [(0, .int .i64 a0), (3, .slice o20000_1 l20000_1.length k20000_1), (4, .int .u64 v4_1), (11, .bool (decide (((l20000_1.length : Nat) : Int) < a0)))]) (mem' := fun _ => [(20000, o67 o20000_1 k20000_1 l20000_1)]) (RunsTo.mk [] [0, 3, 4, 11] [20000] (fun _ => []) (fun _ => by kernel_rfl) (fun _ => trivial)) ?_
    intro _
    refine GS.cond (t := decide (((l20000_1.length : Nat) : Int) < a0)) rfl rfl (fun h94 => ?_) (fun h94 => ?_)
    · replace hm := br_t h94 hm
      refine GS.skip ?_
      refine GS.seq ?_
      refine GS.block ?_
      refine GS.seq ?_
      refine GS.region (env' := fun _ => [(0, .int .i64 a0), (3, .slice o20000_1 l20000_1.length k20000_1), (4, .int .u64 v4_1), (5, .bool true)]) (mem' := fun _ => [(20000, o67 o20000_1 k20000_1 l20000_1)]) (RunsTo.mk [] [0, 3, 4, 5] [20000] (fun _ => []) (fun _ => by kernel_rfl) (fun _ => trivial)) ?_
      intro _
      refine GS.seq ?_
      refine GS.seq ?_
      refine GS.region (env' := fun _ => [(0, .int .i64 a0), (3, .slice o20000_1 l20000_1.length k20000_1), (4, .int .u64 v4_1), (5, .bool true), (14, .slice o20000_1 l20000_1.length k20000_1), (15, .int .i64 ((l20000_1.length : Nat) : Int)), (16, .int .i64 0)]) (mem' := fun _ => [(20000, o67 o20000_1 k20000_1 l20000_1)]) (RunsTo.mk [] [0, 3, 4, 5, 14, 15, 16] [20000] (fun _ => []) (fun _ => by kernel_rfl) (fun _ => trivial)) ?_
      intro _
      refine GS.block ?_
      refine GS.loop ?_
      refine GS.know (p := l20000_1.length ≤ k20000_1) (fun w hw => by first | (have h := (hw.ok 20000 _ rfl).1.1; rw [List.length_map] at h; exact h) | simpa using (hw.ok 20000 _ rfl).1.1) (fun k97 => ?_)
      refine grd_elim hm (fun g132 hm => ?_)
      refine GS.rekey (env' := [(0, .int .i64 a0), (3, .slice o20000_1 l20000_1.length k20000_1), (4, .int .u64 v4_1), (5, .bool true), (14, .slice o20000_1 l20000_1.length k20000_1), (15, .int .i64 ((l20000_1.length : Nat) : Int)), (16, .int .i64 0)]) (mem' := [(20000, o67 o20000_1 k20000_1 l20000_1)]) [0, 3, 4, 5, 14, 15, 16] [(20000, 20000)] (by kernel_rfl) (by kernel_rfl) rfl ?_
      refine loopL_elim hm (fun st155 fn156 hst157 hfn158 hm => ?_)
      refine GS.loopInv (ι := List Int × Bool × Nat) (I := fun ⟨rs153, v5_12, v16_12⟩ => l20000_1.drop v16_12 = rs153 ∧ loopL st155 fn156 rs153 v16_12 v5_12 = some y) (μ := fun ⟨rs153, v5_12, v16_12⟩ => rs153.length) (E := fun ⟨rs153, v5_12, v16_12⟩ => [(0, .int .i64 a0), (3, .slice o20000_1 l20000_1.length k20000_1), (4, .int .u64 v4_1), (5, .bool v5_12), (14, .slice o20000_1 l20000_1.length k20000_1), (15, .int .i64 ((l20000_1.length : Nat) : Int)), (16, .int .i64 ((v16_12 : Nat) : Int))]) (M := fun ⟨rs153, v5_12, v16_12⟩ => [(20000, o67 o20000_1 k20000_1 l20000_1)]) ?_ ⟨l20000_1, true, 0⟩ ⟨List.drop_zero .., hm⟩
      rintro ⟨rs153, v5_12, v16_12⟩ ⟨hd131, hm⟩ ih154
      cases rs153 with
      | nil =>
        replace hm := (hfn158 _ _).symm.trans hm
        try dsimp only at hm
        refine GS.seq ?_
        refine GS.region (env' := fun _ => [(0, .int .i64 a0), (3, .slice o20000_1 l20000_1.length k20000_1), (4, .int .u64 v4_1), (5, .bool v5_12), (14, .slice o20000_1 l20000_1.length k20000_1), (15, .int .i64 ((l20000_1.length : Nat) : Int)), (16, .int .i64 ((v16_12 : Nat) : Int)), (17, .bool (decide (((v16_12 : Nat) : Int) < ((l20000_1.length : Nat) : Int))))]) (mem' := fun _ => [(20000, o67 o20000_1 k20000_1 l20000_1)]) (RunsTo.mk [] [0, 3, 4, 5, 14, 15, 16, 17] [20000] (fun _ => []) (fun _ => by kernel_rfl) (fun _ => trivial)) ?_
        intro _
        refine GS.seq ?_
        refine GS.cond (t := decide (((v16_12 : Nat) : Int) < ((l20000_1.length : Nat) : Int))) rfl rfl (fun h151 => absb h151 (drop_dec0 hd131)) (fun _ => ?_)
        refine GS.exit rfl ?_
        refine GS.seq ?_
        refine GS.region (env' := fun _ => [(0, .int .i64 a0), (3, .slice o20000_1 l20000_1.length k20000_1), (4, .int .u64 v4_1), (25, .bool v5_12)]) (mem' := fun _ => [(20000, o67 o20000_1 k20000_1 l20000_1)]) (RunsTo.mk [] [0, 3, 4, 25] [20000] (fun _ => []) (fun _ => by kernel_rfl) (fun _ => trivial)) ?_
        intro _
        refine GS.cond (t := v5_12) rfl rfl (fun h160 => ?_) (fun h160 => ?_)
        · replace hm := br_t h160 hm
          refine grd_elim hm (fun g162 hm => ?_)
          refine GS.region (env' := fun fr161 => [(0, .int .i64 a0), (3, .slice ((fr161 3).ob) ((l20000_1 ++ [v4_1]).length) ((fr161 3).cap)), (4, .int .u64 v4_1)]) (mem' := fun fr161 => [(20000, .osl ((fr161 3).ob) ((fr161 3).cap) 67 1 ((List.map rU64 l20000_1) ++ ([[.int .u64 v4_1]] : List (List Value))))]) (RunsTo.mk [(2, { act := .new (.row 1 1), key := some 20001, spf := some (fun f => .slice (some (Addr.mk f.x 0 none)) ([v4_1].length) 1) }), (3, { act := .app (some 20001), key := some 20000, spf := some (fun f => .slice (f.ob) ((l20000_1 ++ [v4_1]).length) (f.cap)) })] [0, 3, 4] [20000] (fun fr161 => [((.slice (some (Addr.mk (fr161 2).x 0 none)) 1 1) : Value) = .slice (some (Addr.mk (fr161 2).x 0 none)) ([v4_1].length) 1, (some (Addr.mk (fr161 2).x 0 none)) = (some (Addr.mk (fr161 2).x 0 none)), [v4_1].length = ([[.int .u64 v4_1]] : List (List Value)).length, o20000_1 = o20000_1, k20000_1 = k20000_1, l20000_1.length = (List.map rU64 l20000_1).length, ((List.map rU64 l20000_1).length + ([[.int .u64 v4_1]] : List (List Value)).length) * (8 + 1) ≤ 70368744177664, ([[.int .u64 v4_1]] : List (List Value)).flatten.all Value.oneCell' = true, ((.slice ((fr161 3).ob) (l20000_1.length + ([[.int .u64 v4_1]] : List (List Value)).length) ((fr161 3).cap)) : Value) = .slice ((fr161 3).ob) ((l20000_1 ++ [v4_1]).length) ((fr161 3).cap)]) (fun fr161 => by kernel_rfl) (fun fr161 => ⟨rfl, rfl, (by rw [show ([[.int .u64 v4_1]] : List (List Value)) = List.map rU64 [v4_1] from rfl]; exact mlen rU64 [v4_1]), rfl, rfl, mlen rU64 l20000_1, appb g162 (mlen rU64 l20000_1).symm (by rw [show ([[.int .u64 v4_1]] : List (List Value)) = List.map rU64 [v4_1] from rfl]; exact (mlen rU64 [v4_1]).symm), (by rw [show ([[.int .u64 v4_1]] : List (List Value)) = List.map rU64 [v4_1] from (show ([[.int .u64 v4_1]] : List (List Value)) = List.map rU64 [v4_1] from rfl)]; exact all_one rU64 _ (fun _ => rfl)), slen (by simp), trivial⟩)) ?_
          intro fr161
          refine GS.conv (mem' := [(20000, o67 ((fr161 3).ob) ((fr161 3).cap) (l20000_1 ++ [v4_1]))]) rfl (congrArg (fun rr : List (List Value) => ([(20000, .osl ((fr161 3).ob) ((fr161 3).cap) 67 1 rr)] : List (Nat × Ent))) (show (List.map rU64 l20000_1) ++ ([[.int .u64 v4_1]] : List (List Value)) = List.map rU64 (l20000_1 ++ [v4_1]) from (by rw [show List.map rU64 l20000_1 = List.map rU64 l20000_1 from rfl, show ([[.int .u64 v4_1]] : List (List Value)) = List.map rU64 [v4_1] from (show ([[.int .u64 v4_1]] : List (List Value)) = List.map rU64 [v4_1] from rfl)]; exact mapp rU64 _ _))) ?_
          refine GS.inBlock ?_
          refine GS.region (env' := fun _ => [(0, .int .i64 a0), (3, .slice ((fr161 3).ob) ((l20000_1 ++ [v4_1]).length) ((fr161 3).cap)), (4, .int .u64 (IntKind.u64.wrap (v4_1 + 1)))]) (mem' := fun _ => [(20000, o67 ((fr161 3).ob) ((fr161 3).cap) (l20000_1 ++ [v4_1]))]) (RunsTo.mk [] [0, 3, 4] [20000] (fun _ => []) (fun _ => by kernel_rfl) (fun _ => trivial)) ?_
          intro _
          refine GS.inLoop ?_
          refine GS.rekey (env' := [(0, .int .i64 a0), (3, .slice ((fr161 3).ob) ((l20000_1 ++ [v4_1]).length) ((fr161 3).cap)), (4, .int .u64 (IntKind.u64.wrap (v4_1 + 1)))]) (mem' := [(20000, o67 ((fr161 3).ob) ((fr161 3).cap) (l20000_1 ++ [v4_1]))]) [0, 3, 4] [(20000, 20000)] (by kernel_rfl) (by kernel_rfl) rfl ?_
          exact ih174 ⟨rs173, (IntKind.u64.wrap (v4_1 + 1)), (l20000_1 ++ [v4_1]), (fr161 3).ob, (fr161 3).cap⟩ hm (Nat.lt_succ_self _)
        · replace hm := br_f h160 hm
          refine GS.skip ?_
          refine GS.inBlock ?_
          refine GS.region (env' := fun _ => [(0, .int .i64 a0), (3, .slice o20000_1 l20000_1.length k20000_1), (4, .int .u64 (IntKind.u64.wrap (v4_1 + 1)))]) (mem' := fun _ => [(20000, o67 o20000_1 k20000_1 l20000_1)]) (RunsTo.mk [] [0, 3, 4] [20000] (fun _ => []) (fun _ => by kernel_rfl) (fun _ => trivial)) ?_
          intro _
          refine GS.inLoop ?_
          refine GS.rekey (env' := [(0, .int .i64 a0), (3, .slice o20000_1 l20000_1.length k20000_1), (4, .int .u64 (IntKind.u64.wrap (v4_1 + 1)))]) (mem' := [(20000, o67 o20000_1 k20000_1 l20000_1)]) [0, 3, 4] [(20000, 20000)] (by kernel_rfl) (by kernel_rfl) rfl ?_
          exact ih174 ⟨rs173, (IntKind.u64.wrap (v4_1 + 1)), l20000_1, o20000_1, k20000_1⟩ hm (Nat.lt_succ_self _)
      | cons x133 rs153 =>
        replace hm := (hst157 _ _ _ _).symm.trans hm
        try dsimp only at hm
        refine GS.seq ?_
        refine GS.region (env' := fun _ => [(0, .int .i64 a0), (3, .slice o20000_1 l20000_1.length k20000_1), (4, .int .u64 v4_1), (5, .bool v5_12), (14, .slice o20000_1 l20000_1.length k20000_1), (15, .int .i64 ((l20000_1.length : Nat) : Int)), (16, .int .i64 ((v16_12 : Nat) : Int)), (17, .bool (decide (((v16_12 : Nat) : Int) < ((l20000_1.length : Nat) : Int))))]) (mem' := fun _ => [(20000, o67 o20000_1 k20000_1 l20000_1)]) (RunsTo.mk [] [0, 3, 4, 5, 14, 15, 16, 17] [20000] (fun _ => []) (fun _ => by kernel_rfl) (fun _ => trivial)) ?_
        intro _
        refine GS.seq ?_
        refine GS.cond (t := decide (((v16_12 : Nat) : Int) < ((l20000_1.length : Nat) : Int))) rfl rfl (fun _ => ?_) (fun h135 => absb (drop_dec hd131) h135)
        refine GS.skip ?_
        refine GS.seq ?_
        refine GS.block ?_
        refine GS.seq ?_
        refine GS.region (env' := fun _ => [(0, .int .i64 a0), (3, .slice o20000_1 l20000_1.length k20000_1), (4, .int .u64 v4_1), (5, .bool v5_12), (7, .int .u64 x133), (14, .slice o20000_1 l20000_1.length k20000_1), (15, .int .i64 ((l20000_1.length : Nat) : Int)), (16, .int .i64 ((v16_12 : Nat) : Int))]) (mem' := fun _ => [(20000, o67 o20000_1 k20000_1 l20000_1)]) (RunsTo.mk [(0, { act := .idx 20000 v16_12 }), (1, { act := .load 20000 v16_12 0 [.int .u64 x133] })] [0, 3, 4, 5, 7, 14, 15, 16] [20000] (fun _ => [o20000_1 = o20000_1, l20000_1.length = (List.map rU64 l20000_1).length, (((v16_12 : Nat) : Int) : Int) = ((v16_12 : Nat) : Int), v16_12 < l20000_1.length, blk o20000_1 = blk o20000_1, offs o20000_1 + v16_12 * 1 = offs o20000_1 + (v16_12 * 1 + 0), (List.map rU64 l20000_1)[v16_12]? = some [.int .u64 x133]]) (fun _ => by kernel_rfl) (fun _ => ⟨rfl, mlen rU64 l20000_1, rfl, (drop_lt hd131), rfl, rfl, map_drop rU64 hd131, trivial⟩)) ?_
        intro _
        refine GS.seq ?_
        refine grd_elim hm (fun g138 hm => ?_)
        refine GS.region (env' := fun _ => [(0, .int .i64 a0), (3, .slice o20000_1 l20000_1.length k20000_1), (4, .int .u64 v4_1), (5, .bool v5_12), (14, .slice o20000_1 l20000_1.length k20000_1), (15, .int .i64 ((l20000_1.length : Nat) : Int)), (16, .int .i64 ((v16_12 : Nat) : Int)), (23, .bool ((Int.tmod v4_1 x133) == 0))]) (mem' := fun _ => [(20000, o67 o20000_1 k20000_1 l20000_1)]) (RunsTo.mk [(2, { act := .div })] [0, 3, 4, 5, 14, 15, 16, 23] [20000] (fun _ => [x133 ≠ 0]) (fun _ => by kernel_rfl) (fun _ => ⟨g138, trivial⟩)) ?_
        intro _
        refine GS.cond (t := (Int.tmod v4_1 x133) == 0) rfl rfl (fun h139 => ?_) (fun h139 => ?_)
        · replace hm := br_t h139 hm
          refine GS.region (env' := fun _ => [(0, .int .i64 a0), (3, .slice o20000_1 l20000_1.length k20000_1), (4, .int .u64 v4_1), (5, .bool false), (14, .slice o20000_1 l20000_1.length k20000_1), (15, .int .i64 ((l20000_1.length : Nat) : Int)), (16, .int .i64 ((v16_12 : Nat) : Int))]) (mem' := fun _ => [(20000, o67 o20000_1 k20000_1 l20000_1)]) (RunsTo.mk [] [0, 3, 4, 5, 14, 15, 16] [20000] (fun _ => []) (fun _ => by kernel_rfl) (fun _ => trivial)) ?_
          intro _
          refine GS.inBlock ?_
          refine GS.region (env' := fun _ => [(0, .int .i64 a0), (3, .slice o20000_1 l20000_1.length k20000_1), (4, .int .u64 v4_1), (5, .bool false), (14, .slice o20000_1 l20000_1.length k20000_1), (15, .int .i64 ((l20000_1.length : Nat) : Int)), (16, .int .i64 ((v16_12 + 1 : Nat) : Int))]) (mem' := fun _ => [(20000, o67 o20000_1 k20000_1 l20000_1)]) (RunsTo.mk [(0, { sp := some (.int .i64 ((v16_12 + 1 : Nat) : Int)) })] [0, 3, 4, 5, 14, 15, 16] [20000] (fun _ => [((.int .i64 (IntKind.i64.wrap (((v16_12 : Nat) : Int) + 1))) : Value) = .int .i64 ((v16_12 + 1 : Nat) : Int)]) (fun _ => by kernel_rfl) (fun _ => ⟨natw (drop_lt hd131) g132, trivial⟩)) ?_
          intro _
          refine GS.inLoop ?_
          refine GS.rekey (env' := [(0, .int .i64 a0), (3, .slice o20000_1 l20000_1.length k20000_1), (4, .int .u64 v4_1), (5, .bool false), (14, .slice o20000_1 l20000_1.length k20000_1), (15, .int .i64 ((l20000_1.length : Nat) : Int)), (16, .int .i64 ((v16_12 + 1 : Nat) : Int))]) (mem' := [(20000, o67 o20000_1 k20000_1 l20000_1)]) [0, 3, 4, 5, 14, 15, 16] [(20000, 20000)] (by kernel_rfl) (by kernel_rfl) rfl ?_
          exact ih154 ⟨rs153, false, v16_12 + 1⟩ ⟨drop_next hd131, hm⟩ (Nat.lt_succ_self _)
        · replace hm := br_f h139 hm
          refine GS.skip ?_
          refine GS.inBlock ?_
          refine GS.region (env' := fun _ => [(0, .int .i64 a0), (3, .slice o20000_1 l20000_1.length k20000_1), (4, .int .u64 v4_1), (5, .bool v5_12), (14, .slice o20000_1 l20000_1.length k20000_1), (15, .int .i64 ((l20000_1.length : Nat) : Int)), (16, .int .i64 ((v16_12 + 1 : Nat) : Int))]) (mem' := fun _ => [(20000, o67 o20000_1 k20000_1 l20000_1)]) (RunsTo.mk [(0, { sp := some (.int .i64 ((v16_12 + 1 : Nat) : Int)) })] [0, 3, 4, 5, 14, 15, 16] [20000] (fun _ => [((.int .i64 (IntKind.i64.wrap (((v16_12 : Nat) : Int) + 1))) : Value) = .int .i64 ((v16_12 + 1 : Nat) : Int)]) (fun _ => by kernel_rfl) (fun _ => ⟨natw (drop_lt hd131) g132, trivial⟩)) ?_
          intro _
          refine GS.inLoop ?_
          refine GS.rekey (env' := [(0, .int .i64 a0), (3, .slice o20000_1 l20000_1.length k20000_1), (4, .int .u64 v4_1), (5, .bool v5_12), (14, .slice o20000_1 l20000_1.length k20000_1), (15, .int .i64 ((l20000_1.length : Nat) : Int)), (16, .int .i64 ((v16_12 + 1 : Nat) : Int))]) (mem' := [(20000, o67 o20000_1 k20000_1 l20000_1)]) [0, 3, 4, 5, 14, 15, 16] [(20000, 20000)] (by kernel_rfl) (by kernel_rfl) rfl ?_
          exact ih154 ⟨rs153, v5_12, v16_12 + 1⟩ ⟨drop_next hd131, hm⟩ (Nat.lt_succ_self _)
    · replace hm := br_f h94 hm
      refine GS.exit rfl ?_
      refine GS.seq ?_
      refine GS.region (env' := fun _ => [(2, .slice o20000_1 l20000_1.length k20000_1)]) (mem' := fun _ => [(20000, o67 o20000_1 k20000_1 l20000_1)]) (RunsTo.mk [] [2] [20000] (fun _ => []) (fun _ => by kernel_rfl) (fun _ => trivial)) ?_
      intro _
      have hy := Option.some.inj hm
      subst hy
      refine GS.ret (fn := Try.f31) [0] [.slice o20000_1 l20000_1.length k20000_1] [] rfl Try.func31 (by kernel_rfl) trivial (fun w' hs => ?_)
      exact ⟨⟨o20000_1, k20000_1⟩, rfl, hs.turnedG (ks := [20000]) rfl rfl⟩

theorem w_tholeref01_times (F : Nat) (a0 : Int) (a1 : Int) {y : S_tholeref01_wide} (hm : m_tholeref01_times F a0 a1 = some y) : CallG Try.prog 47 #[.int .u64 a0, .int .u64 a1] (X := Unit) (fun (_ : Unit) => .agg #[.int .u64 y.hi, .int .u64 y.lo]) [] [] (fun (_ : Unit) => []) := by
  intro w hg
  rw [m_tholeref01_times] at hm
  refine GS.start (S := mayT [] []) (mem := []) Try.func47 rfl Try.ntmps47 (Nat.le_of_ble_eq_true rfl) (hg.start rfl) ?_
  refine GS.conv (env' := [(0, .int .u64 a0), (1, .int .u64 a1)]) rfl rfl ?_
  refine GS.seq ?_
  refine GS.region (env' := fun fr1 => [(0, .int .u64 a0), (1, .int .u64 a1), (4, .pointer (some ⟨(fr1 0).x, 0, none⟩))]) (mem' := fun fr1 => [(1, .cells ((fr1 0).x) 90 [.int .u64 0, .int .u64 0])]) (RunsTo.mk [(0, { act := .new .var, key := some 1 })] [0, 1, 4] [1] (fun fr1 => []) (fun fr1 => by kernel_rfl) (fun fr1 => trivial)) ?_
  intro fr1
  refine GS.seq ?_
  refine GS.region (env' := fun _ => [(4, .pointer (some ⟨(fr1 0).x, 0, none⟩)), (5, .int .u64 (iand .u64 a0 4294967295)), (6, .int .u64 (Int.fdiv a0 (2 ^ 32))), (7, .int .u64 (iand .u64 a1 4294967295)), (8, .int .u64 (Int.fdiv a1 (2 ^ 32)))]) (mem' := fun _ => [(1, .cells ((fr1 0).x) 90 [.int .u64 0, .int .u64 0])]) (RunsTo.mk [] [4, 5, 6, 7, 8] [1] (fun _ => []) (fun _ => by kernel_rfl) (fun _ => trivial)) ?_
  intro _
  refine GS.seq ?_
  refine GS.region (env' := fun _ => [(4, .pointer (some ⟨(fr1 0).x, 0, none⟩)), (5, .int .u64 (iand .u64 a0 4294967295)), (6, .int .u64 (Int.fdiv a0 (2 ^ 32))), (7, .int .u64 (iand .u64 a1 4294967295)), (8, .int .u64 (Int.fdiv a1 (2 ^ 32))), (9, .int .u64 (IntKind.u64.wrap ((IntKind.u64.wrap ((iand .u64 a0 4294967295) * (Int.fdiv a1 (2 ^ 32)))) + (Int.fdiv (IntKind.u64.wrap ((iand .u64 a0 4294967295) * (iand .u64 a1 4294967295))) (2 ^ 32)))))]) (mem' := fun _ => [(1, .cells ((fr1 0).x) 90 [.int .u64 0, .int .u64 0])]) (RunsTo.mk [] [4, 5, 6, 7, 8, 9] [1] (fun _ => []) (fun _ => by kernel_rfl) (fun _ => trivial)) ?_
  intro _
  refine GS.seq ?_
  refine bnd_elim hm (fun y4 e5 hm => ?_)
  refine GS.conv (env' := [(4, .pointer (some ⟨(fr1 0).x, 0, none⟩)), (5, .int .u64 (iand .u64 a0 4294967295)), (6, .int .u64 (Int.fdiv a0 (2 ^ 32))), (7, .int .u64 (iand .u64 a1 4294967295)), (8, .int .u64 (Int.fdiv a1 (2 ^ 32))), (9, .int .u64 y4)]) (congrArg (fun vhole : Int => ([(4, .pointer (some ⟨(fr1 0).x, 0, none⟩)), (5, .int .u64 (iand .u64 a0 4294967295)), (6, .int .u64 (Int.fdiv a0 (2 ^ 32))), (7, .int .u64 (iand .u64 a1 4294967295)), (8, .int .u64 (Int.fdiv a1 (2 ^ 32))), (9, .int .u64 vhole)] : List (Nat × Value))) (Option.some.inj e5)) rfl ?_
  refine GS.region (env' := fun _ => [(4, .pointer (some ⟨(fr1 0).x, 0, none⟩)), (5, .int .u64 (iand .u64 a0 4294967295)), (6, .int .u64 (Int.fdiv a0 (2 ^ 32))), (7, .int .u64 (iand .u64 a1 4294967295)), (8, .int .u64 (Int.fdiv a1 (2 ^ 32))), (9, .int .u64 y4), (10, .int .u64 (IntKind.u64.wrap ((IntKind.u64.wrap ((Int.fdiv a0 (2 ^ 32)) * (iand .u64 a1 4294967295))) + (iand .u64 y4 4294967295))))]) (mem' := fun _ => [(1, .cells ((fr1 0).x) 90 [.int .u64 0, .int .u64 0])]) (RunsTo.mk [] [4, 5, 6, 7, 8, 9, 10] [1] (fun _ => []) (fun _ => by kernel_rfl) (fun _ => trivial)) ?_
  intro _
  refine GS.seq ?_
  refine bnd_elim hm (fun y7 e8 hm => ?_)
  refine GS.conv (env' := [(4, .pointer (some ⟨(fr1 0).x, 0, none⟩)), (5, .int .u64 (iand .u64 a0 4294967295)), (6, .int .u64 (Int.fdiv a0 (2 ^ 32))), (7, .int .u64 (iand .u64 a1 4294967295)), (8, .int .u64 (Int.fdiv a1 (2 ^ 32))), (9, .int .u64 y4), (10, .int .u64 y7)]) (congrArg (fun vhole : Int => ([(4, .pointer (some ⟨(fr1 0).x, 0, none⟩)), (5, .int .u64 (iand .u64 a0 4294967295)), (6, .int .u64 (Int.fdiv a0 (2 ^ 32))), (7, .int .u64 (iand .u64 a1 4294967295)), (8, .int .u64 (Int.fdiv a1 (2 ^ 32))), (9, .int .u64 y4), (10, .int .u64 vhole)] : List (Nat × Value))) (Option.some.inj e8)) rfl ?_
  refine GS.region (env' := fun _ => [(4, .pointer (some ⟨(fr1 0).x, 0, none⟩))]) (mem' := fun _ => [(1, .cells ((fr1 0).x) 90 [.int .u64 (IntKind.u64.wrap ((IntKind.u64.wrap ((IntKind.u64.wrap ((Int.fdiv a0 (2 ^ 32)) * (Int.fdiv a1 (2 ^ 32)))) + (Int.fdiv y4 (2 ^ 32)))) + (Int.fdiv y7 (2 ^ 32)))), .int .u64 (ior .u64 (IntKind.u64.wrap (y7 * 2 ^ 32)) (iand .u64 (IntKind.u64.wrap ((iand .u64 a0 4294967295) * (iand .u64 a1 4294967295))) 4294967295))])]) (RunsTo.mk [(17, { act := .store 0 0 [], key := some 1 })] [4] [1] (fun _ => [(fr1 0).x = (fr1 0).x, ((.agg #[.int .u64 (IntKind.u64.wrap ((IntKind.u64.wrap ((IntKind.u64.wrap ((Int.fdiv a0 (2 ^ 32)) * (Int.fdiv a1 (2 ^ 32)))) + (Int.fdiv y4 (2 ^ 32)))) + (Int.fdiv y7 (2 ^ 32)))), .int .u64 (ior .u64 (IntKind.u64.wrap (y7 * 2 ^ 32)) (iand .u64 (IntKind.u64.wrap ((iand .u64 a0 4294967295) * (iand .u64 a1 4294967295))) 4294967295))]) : Value).cells.toList.all Value.oneCell' = true]) (fun _ => by kernel_rfl) (fun _ => ⟨rfl, rfl, trivial⟩)) ?_
  intro _
  have hy := Option.some.inj hm
  subst hy
  refine GS.ret (fn := Try.f47) [1] [.agg #[.int .u64 (IntKind.u64.wrap ((IntKind.u64.wrap ((IntKind.u64.wrap ((Int.fdiv a0 (2 ^ 32)) * (Int.fdiv a1 (2 ^ 32)))) + (Int.fdiv y4 (2 ^ 32)))) + (Int.fdiv y7 (2 ^ 32)))), .int .u64 (ior .u64 (IntKind.u64.wrap (y7 * 2 ^ 32)) (iand .u64 (IntKind.u64.wrap ((iand .u64 a0 4294967295) * (iand .u64 a1 4294967295))) 4294967295))]] [(fr1 0).x = (fr1 0).x] rfl Try.func47 (by kernel_rfl) ⟨rfl, trivial⟩ (fun w' hs => ?_)
  exact ⟨(), rfl, hs.turnedG (ks := []) rfl rfl⟩

theorem w__tholeref01_wide__most (F : Nat) (a0 : S_tholeref01_wide) (a1 : S_tholeref01_wide) {y : Bool} (hm : m__tholeref01_wide__most F a0 a1 = some y) : CallG Try.prog 48 #[.agg #[.int .u64 a0.hi, .int .u64 a0.lo], .agg #[.int .u64 a1.hi, .int .u64 a1.lo]] (X := Unit) (fun (_ : Unit) => .bool y) [] [] (fun (_ : Unit) => []) := by
  intro w hg
  rw [m__tholeref01_wide__most] at hm
  refine GS.start (S := mayT [] []) (mem := []) Try.func48 rfl Try.ntmps48 (Nat.le_of_ble_eq_true rfl) (hg.start rfl) ?_
  refine GS.conv (env' := [(0, .agg #[.int .u64 a0.hi, .int .u64 a0.lo]), (1, .agg #[.int .u64 a1.hi, .int .u64 a1.lo])]) rfl rfl ?_
  refine GS.seq ?_
  refine GS.region (env' := fun fr1 => [(2, .pointer (some ⟨(fr1 0).x, 0, none⟩)), (3, .pointer (some ⟨(fr1 1).x, 0, none⟩))]) (mem' := fun fr1 => [(1, .cells ((fr1 0).x) 90 [.int .u64 a0.hi, .int .u64 a0.lo]), (2, .cells ((fr1 1).x) 90 [.int .u64 a1.hi, .int .u64 a1.lo])]) (RunsTo.mk [(0, { act := .new .var, key := some 1 }), (1, { act := .new .var, key := some 2 })] [2, 3] [1, 2] (fun fr1 => []) (fun fr1 => by kernel_rfl) (fun fr1 => trivial)) ?_
  intro fr1
  refine GS.seq ?_
  refine br_elim hm (fun h3 hm => ?_) (fun h3 hm => ?_)
  · skip
    refine GS.region (env' := fun _ => [(4, .bool true)]) (mem' := fun _ => []) (RunsTo.mk [(1, { act := .load 1 0 0 [] }), (3, { act := .load 2 0 0 [] }), (5, { sp := some (.bool true) })] [4] [] (fun _ => [(fr1 0).x = (fr1 0).x, (fr1 1).x = (fr1 1).x, ((.bool (decide (a0.hi < a1.hi))) : Value) = .bool true]) (fun _ => by kernel_rfl) (fun _ => ⟨rfl, rfl, bool_eq h3, trivial⟩)) ?_
    intro _
    have hy := Option.some.inj hm
    subst hy
    refine GS.ret (fn := Try.f48) [0] [.bool true] [] rfl Try.func48 (by kernel_rfl) trivial (fun w' hs => ?_)
    exact ⟨(), rfl, hs.turnedG (ks := []) rfl rfl⟩
  · skip
    refine br_elim hm (fun h4 hm => ?_) (fun h4 hm => ?_)
    · skip
      refine GS.region (env' := fun _ => [(4, .bool (decide (a0.lo ≤ a1.lo)))]) (mem' := fun _ => []) (RunsTo.mk [(1, { act := .load 1 0 0 [] }), (3, { act := .load 2 0 0 [] }), (5, { sp := some (.bool false) }), (7, { act := .load 1 0 0 [] }), (9, { act := .load 2 0 0 [] }), (11, { sp := some (.bool true) }), (13, { act := .load 1 0 0 [] }), (15, { act := .load 2 0 0 [] })] [4] [] (fun _ => [(fr1 0).x = (fr1 0).x, (fr1 1).x = (fr1 1).x, ((.bool (decide (a0.hi < a1.hi))) : Value) = .bool false, (fr1 0).x = (fr1 0).x, (fr1 1).x = (fr1 1).x, ((.bool (a0.hi == a1.hi)) : Value) = .bool true, (fr1 0).x = (fr1 0).x, (fr1 1).x = (fr1 1).x]) (fun _ => by kernel_rfl) (fun _ => ⟨rfl, rfl, bool_eq h3, rfl, rfl, bool_eq h4, rfl, rfl, trivial⟩)) ?_
      intro _
      have hy := Option.some.inj hm
      subst hy
      refine GS.ret (fn := Try.f48) [0] [.bool (decide (a0.lo ≤ a1.lo))] [] rfl Try.func48 (by kernel_rfl) trivial (fun w' hs => ?_)
      exact ⟨(), rfl, hs.turnedG (ks := []) rfl rfl⟩
    · skip
      refine GS.region (env' := fun _ => [(4, .bool false)]) (mem' := fun _ => []) (RunsTo.mk [(1, { act := .load 1 0 0 [] }), (3, { act := .load 2 0 0 [] }), (5, { sp := some (.bool false) }), (7, { act := .load 1 0 0 [] }), (9, { act := .load 2 0 0 [] }), (11, { sp := some (.bool false) })] [4] [] (fun _ => [(fr1 0).x = (fr1 0).x, (fr1 1).x = (fr1 1).x, ((.bool (decide (a0.hi < a1.hi))) : Value) = .bool false, (fr1 0).x = (fr1 0).x, (fr1 1).x = (fr1 1).x, ((.bool (a0.hi == a1.hi)) : Value) = .bool false]) (fun _ => by kernel_rfl) (fun _ => ⟨rfl, rfl, bool_eq h3, rfl, rfl, bool_eq h4, trivial⟩)) ?_
      intro _
      have hy := Option.some.inj hm
      subst hy
      refine GS.ret (fn := Try.f48) [0] [.bool false] [] rfl Try.func48 (by kernel_rfl) trivial (fun w' hs => ?_)
      exact ⟨(), rfl, hs.turnedG (ks := []) rfl rfl⟩

theorem w_tholeref01_square (F : Nat) (a0 : Int) {y : Int} (hm : m_tholeref01_square F a0 = some y) : CallG Try.prog 32 #[.int .u64 a0] (X := Unit) (fun (_ : Unit) => .int .u32 y) [] [] (fun (_ : Unit) => []) := by
  intro w hg
  rw [m_tholeref01_square] at hm
  refine GS.start (S := mayT [] []) (mem := []) Try.func32 rfl Try.ntmps32 (Nat.le_of_ble_eq_true rfl) (hg.start rfl) ?_
  refine GS.conv (env' := [(0, .int .u64 a0)]) rfl rfl ?_
  refine GS.seq ?_
  refine GS.region (env' := fun _ => [(0, .int .u64 a0)]) (mem' := fun _ => []) (RunsTo.mk [] [0] [] (fun _ => []) (fun _ => by kernel_rfl) (fun _ => trivial)) ?_
  intro _
  refine GS.seq ?_
  refine GS.region (env' := fun _ => [(0, .int .u64 a0), (3, .int .u64 0)]) (mem' := fun _ => []) (RunsTo.mk [] [0, 3] [] (fun _ => []) (fun _ => by kernel_rfl) (fun _ => trivial)) ?_
  intro _
  refine GS.seq ?_
  refine GS.seq ?_
  refine GS.region (env' := fun _ => [(0, .int .u64 a0), (3, .int .u64 0), (4, .int .i64 35)]) (mem' := fun _ => []) (RunsTo.mk [] [0, 3, 4] [] (fun _ => []) (fun _ => by kernel_rfl) (fun _ => trivial)) ?_
  intro _
  refine GS.block ?_
  refine GS.loop ?_
  refine GS.rekey (env' := [(0, .int .u64 a0), (3, .int .u64 0), (4, .int .i64 35)]) (mem' := []) [0, 3, 4] [] (by kernel_rfl) (by kernel_rfl) rfl ?_
  refine loopW_elim hm (fun st85 hst87 hm => ?_)
  refine GS.loopInv (ι := Nat × Int × Int) (I := fun ⟨rs83, v3_1, v4_1⟩ => loopW st85 rs83 (v3_1, v4_1) = some y) (μ := fun ⟨rs83, v3_1, v4_1⟩ => rs83) (E := fun ⟨rs83, v3_1, v4_1⟩ => [(0, .int .u64 a0), (3, .int .u64 v3_1), (4, .int .i64 v4_1)]) (M := fun ⟨rs83, v3_1, v4_1⟩ => []) ?_ ⟨F, 0, 35⟩ hm
  rintro ⟨rs83, v3_1, v4_1⟩ hm ih84
  cases rs83 with
  | zero => cases hm
  | succ rs83 =>
    replace hm := (hst87 _ _).symm.trans hm
    try dsimp only at hm
    refine GS.seq ?_
    refine GS.seq ?_
    refine GS.region (env' := fun _ => [(0, .int .u64 a0), (3, .int .u64 v3_1), (4, .int .i64 v4_1), (7, .bool (decide (v4_1 ≥ 0)))]) (mem' := fun _ => []) (RunsTo.mk [] [0, 3, 4, 7] [] (fun _ => []) (fun _ => by kernel_rfl) (fun _ => trivial)) ?_
    intro _
    refine GS.cond (t := decide (v4_1 ≥ 0)) rfl rfl (fun h64 => ?_) (fun h64 => ?_)
    · replace hm := br_t h64 hm
      refine GS.skip ?_
      refine GS.seq ?_
      refine jn_elim hm (fun J77 hJ79 hm => ?_)
      refine GS.cut (ι := Int) (I := fun (v3_9 : Int) => J77 v3_9 = some y) (E := fun (v3_9 : Int) => [(0, .int .u64 a0), (3, .int .u64 v3_9), (4, .int .i64 v4_1)]) (M := fun (v3_9 : Int) => []) ?_ ?_
      rotate_left
      · intro H78
        refine GS.block ?_
        refine GS.seq ?_
        refine grd_elim hm (fun g66 hm => ?_)
        refine GS.region (env' := fun _ => [(0, .int .u64 a0), (3, .int .u64 v3_1), (4, .int .i64 v4_1), (5, .int .u64 (ior .u64 v3_1 (IntKind.u64.wrap (1 * 2 ^ (min (Int.toNat (IntKind.u64.wrap v4_1)) 64)))))]) (mem' := fun _ => []) (RunsTo.mk [(3, { act := .shift })] [0, 3, 4, 5] [] (fun _ => [0 ≤ (IntKind.u64.wrap v4_1)]) (fun _ => by kernel_rfl) (fun _ => ⟨g66, trivial⟩)) ?_
        intro _
        refine GS.seq ?_
        refine bnd_elim hm (fun y68 e69 hm => ?_)
        refine bnd_elim hm (fun y70 e71 hm => ?_)
        refine GS.region (env' := fun _ => [(0, .int .u64 a0), (3, .int .u64 v3_1), (4, .int .i64 v4_1), (5, .int .u64 (ior .u64 v3_1 (IntKind.u64.wrap (1 * 2 ^ (min (Int.toNat (IntKind.u64.wrap v4_1)) 64))))), (20, .bool y70)]) (mem' := fun _ => []) (RunsTo.mk [(2, { act := .call [] (.agg #[.int .u64 y68.hi, .int .u64 y68.lo]) }), (5, { act := .call [] (.bool y70) })] [0, 3, 4, 5, 20] [] (fun _ => [CallOK Try.prog 47 #[.int .u64 (ior .u64 v3_1 (IntKind.u64.wrap (1 * 2 ^ (min (Int.toNat (IntKind.u64.wrap v4_1)) 64)))), .int .u64 (ior .u64 v3_1 (IntKind.u64.wrap (1 * 2 ^ (min (Int.toNat (IntKind.u64.wrap v4_1)) 64))))] (.agg #[.int .u64 y68.hi, .int .u64 y68.lo]) [], CallOK Try.prog 48 #[.agg #[.int .u64 y68.hi, .int .u64 y68.lo], .agg #[.int .u64 a0, .int .u64 0]] (.bool y70) []]) (fun _ => by kernel_rfl) (fun _ => ⟨(w_tholeref01_times F (ior .u64 v3_1 (IntKind.u64.wrap (1 * 2 ^ (min (Int.toNat (IntKind.u64.wrap v4_1)) 64)))) (ior .u64 v3_1 (IntKind.u64.wrap (1 * 2 ^ (min (Int.toNat (IntKind.u64.wrap v4_1)) 64)))) e69).ok trivial, (w__tholeref01_wide__most F y68 (S_tholeref01_wide.mk a0 0) e71).ok trivial, trivial⟩)) ?_
        intro _
        refine GS.cond (t := y70) rfl rfl (fun h72 => ?_) (fun h72 => ?_)
        · replace hm := br_t h72 hm
          refine GS.region (env' := fun _ => [(0, .int .u64 a0), (3, .int .u64 (ior .u64 v3_1 (IntKind.u64.wrap (1 * 2 ^ (min (Int.toNat (IntKind.u64.wrap v4_1)) 64))))), (4, .int .i64 v4_1)]) (mem' := fun _ => []) (RunsTo.mk [] [0, 3, 4] [] (fun _ => []) (fun _ => by kernel_rfl) (fun _ => trivial)) ?_
          intro _
          refine GS.inBlock ?_
          refine GS.rekey (env' := [(0, .int .u64 a0), (3, .int .u64 (ior .u64 v3_1 (IntKind.u64.wrap (1 * 2 ^ (min (Int.toNat (IntKind.u64.wrap v4_1)) 64))))), (4, .int .i64 v4_1)]) (mem' := []) [0, 3, 4] [] (by kernel_rfl) (by kernel_rfl) rfl ?_
          exact H78 (ior .u64 v3_1 (IntKind.u64.wrap (1 * 2 ^ (min (Int.toNat (IntKind.u64.wrap v4_1)) 64)))) hm
        · replace hm := br_f h72 hm
          refine GS.skip ?_
          refine GS.inBlock ?_
          refine GS.rekey (env' := [(0, .int .u64 a0), (3, .int .u64 v3_1), (4, .int .i64 v4_1)]) (mem' := []) [0, 3, 4] [] (by kernel_rfl) (by kernel_rfl) rfl ?_
          exact H78 v3_1 hm
      · rintro v3_9 hm
        replace hm := (hJ79 _).symm.trans hm
        try dsimp only at hm
        refine grd_elim hm (fun g81 hm => ?_)
        refine GS.region (env' := fun _ => [(0, .int .u64 a0), (3, .int .u64 v3_9), (4, .int .i64 (v4_1 - 1))]) (mem' := fun _ => []) (RunsTo.mk [(1, { sp := some (.int .i64 (v4_1 - 1)) })] [0, 3, 4] [] (fun _ => [((.int .i64 (IntKind.i64.wrap (v4_1 - 1))) : Value) = .int .i64 (v4_1 - 1)]) (fun _ => by kernel_rfl) (fun _ => ⟨I64.w g81, trivial⟩)) ?_
        intro _
        refine GS.inLoop ?_
        refine GS.rekey (env' := [(0, .int .u64 a0), (3, .int .u64 v3_9), (4, .int .i64 (v4_1 - 1))]) (mem' := []) [0, 3, 4] [] (by kernel_rfl) (by kernel_rfl) rfl ?_
        exact ih84 ⟨rs83, v3_9, (v4_1 - 1)⟩ hm (Nat.lt_succ_self _)
    · replace hm := br_f h64 hm
      refine GS.exit rfl ?_
      refine GS.seq ?_
      refine GS.region (env' := fun _ => [(2, .int .u32 (IntKind.u32.wrap v3_1))]) (mem' := fun _ => []) (RunsTo.mk [] [2] [] (fun _ => []) (fun _ => by kernel_rfl) (fun _ => trivial)) ?_
      intro _
      have hy := Option.some.inj hm
      subst hy
      refine GS.ret (fn := Try.f32) [0] [.int .u32 (IntKind.u32.wrap v3_1)] [] rfl Try.func32 (by kernel_rfl) trivial (fun w' hs => ?_)
      exact ⟨(), rfl, hs.turnedG (ks := []) rfl rfl⟩

theorem w_tholeref01_cube (F : Nat) (a0 : Int) {y : Int} (hm : m_tholeref01_cube F a0 = some y) : CallG Try.prog 33 #[.int .u64 a0] (X := Unit) (fun (_ : Unit) => .int .u32 y) [] [] (fun (_ : Unit) => []) := by
  intro w hg
  rw [m_tholeref01_cube] at hm
  refine GS.start (S := mayT [] []) (mem := []) Try.func33 rfl Try.ntmps33 (Nat.le_of_ble_eq_true rfl) (hg.start rfl) ?_
  refine GS.conv (env' := [(0, .int .u64 a0)]) rfl rfl ?_
  refine GS.seq ?_
  refine GS.region (env' := fun _ => [(0, .int .u64 a0)]) (mem' := fun _ => []) (RunsTo.mk [] [0] [] (fun _ => []) (fun _ => by kernel_rfl) (fun _ => trivial)) ?_
  intro _
  refine GS.seq ?_
  refine GS.region (env' := fun _ => [(0, .int .u64 a0), (3, .int .u64 0)]) (mem' := fun _ => []) (RunsTo.mk [] [0, 3] [] (fun _ => []) (fun _ => by kernel_rfl) (fun _ => trivial)) ?_
  intro _
  refine GS.seq ?_
  refine GS.seq ?_
  refine GS.region (env' := fun _ => [(0, .int .u64 a0), (3, .int .u64 0), (4, .int .i64 34)]) (mem' := fun _ => []) (RunsTo.mk [] [0, 3, 4] [] (fun _ => []) (fun _ => by kernel_rfl) (fun _ => trivial)) ?_
  intro _
  refine GS.block ?_
  refine GS.loop ?_
  refine GS.rekey (env' := [(0, .int .u64 a0), (3, .int .u64 0), (4, .int .i64 34)]) (mem' := []) [0, 3, 4] [] (by kernel_rfl) (by kernel_rfl) rfl ?_
  refine loopW_elim hm (fun st109 hst111 hm => ?_)
  refine GS.loopInv (ι := Nat × Int × Int) (I := fun ⟨rs107, v3_1, v4_1⟩ => loopW st109 rs107 (v3_1, v4_1) = some y) (μ := fun ⟨rs107, v3_1, v4_1⟩ => rs107) (E := fun ⟨rs107, v3_1, v4_1⟩ => [(0, .int .u64 a0), (3, .int .u64 v3_1), (4, .int .i64 v4_1)]) (M := fun ⟨rs107, v3_1, v4_1⟩ => []) ?_ ⟨F, 0, 34⟩ hm
  rintro ⟨rs107, v3_1, v4_1⟩ hm ih108
  cases rs107 with
  | zero => cases hm
  | succ rs107 =>
    replace hm := (hst111 _ _).symm.trans hm
    try dsimp only at hm
    refine GS.seq ?_
    refine GS.seq ?_
    refine GS.region (env' := fun _ => [(0, .int .u64 a0), (3, .int .u64 v3_1), (4, .int .i64 v4_1), (10, .bool (decide (v4_1 ≥ 0)))]) (mem' := fun _ => []) (RunsTo.mk [] [0, 3, 4, 10] [] (fun _ => []) (fun _ => by kernel_rfl) (fun _ => trivial)) ?_
    intro _
    refine GS.cond (t := decide (v4_1 ≥ 0)) rfl rfl (fun h81 => ?_) (fun h81 => ?_)
    · replace hm := br_t h81 hm
      refine GS.skip ?_
      refine GS.seq ?_
      refine jn_elim hm (fun J101 hJ103 hm => ?_)
      refine GS.cut (ι := Int) (I := fun (v3_9 : Int) => J101 v3_9 = some y) (E := fun (v3_9 : Int) => [(0, .int .u64 a0), (3, .int .u64 v3_9), (4, .int .i64 v4_1)]) (M := fun (v3_9 : Int) => []) ?_ ?_
      rotate_left
      · intro H102
        refine GS.block ?_
        refine GS.seq ?_
        refine grd_elim hm (fun g83 hm => ?_)
        refine GS.region (env' := fun _ => [(0, .int .u64 a0), (3, .int .u64 v3_1), (4, .int .i64 v4_1), (5, .int .u64 (ior .u64 v3_1 (IntKind.u64.wrap (1 * 2 ^ (min (Int.toNat (IntKind.u64.wrap v4_1)) 64)))))]) (mem' := fun _ => []) (RunsTo.mk [(3, { act := .shift })] [0, 3, 4, 5] [] (fun _ => [0 ≤ (IntKind.u64.wrap v4_1)]) (fun _ => by kernel_rfl) (fun _ => ⟨g83, trivial⟩)) ?_
        intro _
        refine GS.seq ?_
        refine bnd_elim hm (fun y85 e86 hm => ?_)
        refine GS.region (env' := fun fr84 => [(0, .int .u64 a0), (3, .int .u64 v3_1), (4, .int .i64 v4_1), (5, .int .u64 (ior .u64 v3_1 (IntKind.u64.wrap (1 * 2 ^ (min (Int.toNat (IntKind.u64.wrap v4_1)) 64))))), (6, .pointer (some ⟨(fr84 3).x, 0, none⟩))]) (mem' := fun fr84 => [(1, .cells ((fr84 3).x) 90 [.int .u64 y85.hi, .int .u64 y85.lo])]) (RunsTo.mk [(2, { act := .call [] (.agg #[.int .u64 y85.hi, .int .u64 y85.lo]) }), (3, { act := .new .var, key := some 1 }), (4, { act := .store 0 0 [], key := some 1 })] [0, 3, 4, 5, 6] [1] (fun fr84 => [CallOK Try.prog 47 #[.int .u64 (ior .u64 v3_1 (IntKind.u64.wrap (1 * 2 ^ (min (Int.toNat (IntKind.u64.wrap v4_1)) 64)))), .int .u64 (ior .u64 v3_1 (IntKind.u64.wrap (1 * 2 ^ (min (Int.toNat (IntKind.u64.wrap v4_1)) 64))))] (.agg #[.int .u64 y85.hi, .int .u64 y85.lo]) [], (fr84 3).x = (fr84 3).x, ((.agg #[.int .u64 y85.hi, .int .u64 y85.lo]) : Value).cells.toList.all Value.oneCell' = true]) (fun fr84 => by kernel_rfl) (fun fr84 => ⟨(w_tholeref01_times F (ior .u64 v3_1 (IntKind.u64.wrap (1 * 2 ^ (min (Int.toNat (IntKind.u64.wrap v4_1)) 64)))) (ior .u64 v3_1 (IntKind.u64.wrap (1 * 2 ^ (min (Int.toNat (IntKind.u64.wrap v4_1)) 64)))) e86).ok trivial, rfl, rfl, trivial⟩)) ?_
        intro fr84
        refine GS.seq ?_
        refine bnd_elim hm (fun y88 e89 hm => ?_)
        refine GS.region (env' := fun fr87 => [(0, .int .u64 a0), (3, .int .u64 v3_1), (4, .int .i64 v4_1), (5, .int .u64 (ior .u64 v3_1 (IntKind.u64.wrap (1 * 2 ^ (min (Int.toNat (IntKind.u64.wrap v4_1)) 64))))), (6, .pointer (some ⟨(fr84 3).x, 0, none⟩)), (7, .pointer (some ⟨(fr87 4).x, 0, none⟩))]) (mem' := fun fr87 => [(1, .cells ((fr84 3).x) 90 [.int .u64 y85.hi, .int .u64 y85.lo]), (2, .cells ((fr87 4).x) 90 [.int .u64 y88.hi, .int .u64 y88.lo])]) (RunsTo.mk [(1, { act := .load 1 0 0 [] }), (3, { act := .call [] (.agg #[.int .u64 y88.hi, .int .u64 y88.lo]) }), (4, { act := .new .var, key := some 2 }), (5, { act := .store 0 0 [], key := some 2 })] [0, 3, 4, 5, 6, 7] [1, 2] (fun fr87 => [(fr84 3).x = (fr84 3).x, CallOK Try.prog 47 #[.int .u64 y85.lo, .int .u64 (ior .u64 v3_1 (IntKind.u64.wrap (1 * 2 ^ (min (Int.toNat (IntKind.u64.wrap v4_1)) 64))))] (.agg #[.int .u64 y88.hi, .int .u64 y88.lo]) [], (fr87 4).x = (fr87 4).x, ((.agg #[.int .u64 y88.hi, .int .u64 y88.lo]) : Value).cells.toList.all Value.oneCell' = true]) (fun fr87 => by kernel_rfl) (fun fr87 => ⟨rfl, (w_tholeref01_times F y85.lo (ior .u64 v3_1 (IntKind.u64.wrap (1 * 2 ^ (min (Int.toNat (IntKind.u64.wrap v4_1)) 64)))) e89).ok trivial, rfl, rfl, trivial⟩)) ?_
        intro fr87
        refine GS.seq ?_
        refine GS.region (env' := fun _ => [(0, .int .u64 a0), (3, .int .u64 v3_1), (4, .int .i64 v4_1), (5, .int .u64 (ior .u64 v3_1 (IntKind.u64.wrap (1 * 2 ^ (min (Int.toNat (IntKind.u64.wrap v4_1)) 64))))), (7, .pointer (some ⟨(fr87 4).x, 0, none⟩)), (8, .int .u64 (IntKind.u64.wrap ((IntKind.u64.wrap (y85.hi * (ior .u64 v3_1 (IntKind.u64.wrap (1 * 2 ^ (min (Int.toNat (IntKind.u64.wrap v4_1)) 64)))))) + y88.hi)))]) (mem' := fun _ => [(2, .cells ((fr87 4).x) 90 [.int .u64 y88.hi, .int .u64 y88.lo])]) (RunsTo.mk [(1, { act := .load 1 0 0 [] }), (5, { act := .load 2 0 0 [] })] [0, 3, 4, 5, 7, 8] [2] (fun _ => [(fr84 3).x = (fr84 3).x, (fr87 4).x = (fr87 4).x]) (fun _ => by kernel_rfl) (fun _ => ⟨rfl, rfl, trivial⟩)) ?_
        intro _
        refine GS.seq ?_
        refine bnd_elim hm (fun y91 e92 hm => ?_)
        refine GS.conv (env' := [(0, .int .u64 a0), (3, .int .u64 v3_1), (4, .int .i64 v4_1), (5, .int .u64 (ior .u64 v3_1 (IntKind.u64.wrap (1 * 2 ^ (min (Int.toNat (IntKind.u64.wrap v4_1)) 64))))), (7, .pointer (some ⟨(fr87 4).x, 0, none⟩)), (8, .int .u64 y91)]) (congrArg (fun vhole : Int => ([(0, .int .u64 a0), (3, .int .u64 v3_1), (4, .int .i64 v4_1), (5, .int .u64 (ior .u64 v3_1 (IntKind.u64.wrap (1 * 2 ^ (min (Int.toNat (IntKind.u64.wrap v4_1)) 64))))), (7, .pointer (some ⟨(fr87 4).x, 0, none⟩)), (8, .int .u64 vhole)] : List (Nat × Value))) (Option.some.inj e92)) rfl ?_
        refine bnd_elim hm (fun y94 e95 hm => ?_)
        refine GS.region (env' := fun _ => [(0, .int .u64 a0), (3, .int .u64 v3_1), (4, .int .i64 v4_1), (5, .int .u64 (ior .u64 v3_1 (IntKind.u64.wrap (1 * 2 ^ (min (Int.toNat (IntKind.u64.wrap v4_1)) 64))))), (39, .bool y94)]) (mem' := fun _ => []) (RunsTo.mk [(2, { act := .load 2 0 0 [] }), (7, { act := .call [] (.bool y94) })] [0, 3, 4, 5, 39] [] (fun _ => [(fr87 4).x = (fr87 4).x, CallOK Try.prog 48 #[.agg #[.int .u64 y91, .int .u64 y88.lo], .agg #[.int .u64 (IntKind.u64.wrap (a0 * 2 ^ 32)), .int .u64 0]] (.bool y94) []]) (fun _ => by kernel_rfl) (fun _ => ⟨rfl, (w__tholeref01_wide__most F (S_tholeref01_wide.mk y91 y88.lo) (S_tholeref01_wide.mk (IntKind.u64.wrap (a0 * 2 ^ 32)) 0) e95).ok trivial, trivial⟩)) ?_
        intro _
        refine GS.cond (t := y94) rfl rfl (fun h96 => ?_) (fun h96 => ?_)
        · replace hm := br_t h96 hm
          refine GS.region (env' := fun _ => [(0, .int .u64 a0), (3, .int .u64 (ior .u64 v3_1 (IntKind.u64.wrap (1 * 2 ^ (min (Int.toNat (IntKind.u64.wrap v4_1)) 64))))), (4, .int .i64 v4_1)]) (mem' := fun _ => []) (RunsTo.mk [] [0, 3, 4] [] (fun _ => []) (fun _ => by kernel_rfl) (fun _ => trivial)) ?_
          intro _
          refine GS.inBlock ?_
          refine GS.rekey (env' := [(0, .int .u64 a0), (3, .int .u64 (ior .u64 v3_1 (IntKind.u64.wrap (1 * 2 ^ (min (Int.toNat (IntKind.u64.wrap v4_1)) 64))))), (4, .int .i64 v4_1)]) (mem' := []) [0, 3, 4] [] (by kernel_rfl) (by kernel_rfl) rfl ?_
          exact H102 (ior .u64 v3_1 (IntKind.u64.wrap (1 * 2 ^ (min (Int.toNat (IntKind.u64.wrap v4_1)) 64)))) hm
        · replace hm := br_f h96 hm
          refine GS.skip ?_
          refine GS.inBlock ?_
          refine GS.rekey (env' := [(0, .int .u64 a0), (3, .int .u64 v3_1), (4, .int .i64 v4_1)]) (mem' := []) [0, 3, 4] [] (by kernel_rfl) (by kernel_rfl) rfl ?_
          exact H102 v3_1 hm
      · rintro v3_9 hm
        replace hm := (hJ103 _).symm.trans hm
        try dsimp only at hm
        refine grd_elim hm (fun g105 hm => ?_)
        refine GS.region (env' := fun _ => [(0, .int .u64 a0), (3, .int .u64 v3_9), (4, .int .i64 (v4_1 - 1))]) (mem' := fun _ => []) (RunsTo.mk [(1, { sp := some (.int .i64 (v4_1 - 1)) })] [0, 3, 4] [] (fun _ => [((.int .i64 (IntKind.i64.wrap (v4_1 - 1))) : Value) = .int .i64 (v4_1 - 1)]) (fun _ => by kernel_rfl) (fun _ => ⟨I64.w g105, trivial⟩)) ?_
        intro _
        refine GS.inLoop ?_
        refine GS.rekey (env' := [(0, .int .u64 a0), (3, .int .u64 v3_9), (4, .int .i64 (v4_1 - 1))]) (mem' := []) [0, 3, 4] [] (by kernel_rfl) (by kernel_rfl) rfl ?_
        exact ih108 ⟨rs107, v3_9, (v4_1 - 1)⟩ hm (Nat.lt_succ_self _)
    · replace hm := br_f h81 hm
      refine GS.exit rfl ?_
      refine GS.seq ?_
      refine GS.region (env' := fun _ => [(2, .int .u32 (IntKind.u32.wrap v3_1))]) (mem' := fun _ => []) (RunsTo.mk [] [2] [] (fun _ => []) (fun _ => by kernel_rfl) (fun _ => trivial)) ?_
      intro _
      have hy := Option.some.inj hm
      subst hy
      refine GS.ret (fn := Try.f33) [0] [.int .u32 (IntKind.u32.wrap v3_1)] [] rfl Try.func33 (by kernel_rfl) trivial (fun w' hs => ?_)
      exact ⟨(), rfl, hs.turnedG (ks := []) rfl rfl⟩

theorem w_tholeref01_turn (F : Nat) (a0 : Int) (a1 : Int) {y : Int} (hm : m_tholeref01_turn F a0 a1 = some y) : CallG Try.prog 49 #[.int .u32 a0, .int .u64 a1] (X := Unit) (fun (_ : Unit) => .int .u32 y) [] [] (fun (_ : Unit) => []) := by
  intro w hg
  rw [m_tholeref01_turn] at hm
  refine GS.start (S := mayT [] []) (mem := []) Try.func49 rfl Try.ntmps49 (Nat.le_of_ble_eq_true rfl) (hg.start rfl) ?_
  refine GS.conv (env' := [(0, .int .u32 a0), (1, .int .u64 a1)]) rfl rfl ?_
  refine GS.seq ?_
  refine GS.region (env' := fun _ => [(0, .int .u32 a0), (1, .int .u64 a1)]) (mem' := fun _ => []) (RunsTo.mk [] [0, 1] [] (fun _ => []) (fun _ => by kernel_rfl) (fun _ => trivial)) ?_
  intro _
  refine GS.seq ?_
  refine grd_elim hm (fun g3 hm => ?_)
  refine grd_elim hm (fun g4 hm => ?_)
  refine GS.region (env' := fun _ => [(4, .int .u32 (ior .u32 (Int.fdiv a0 (2 ^ (min (Int.toNat a1) 32))) (IntKind.u32.wrap (a0 * 2 ^ (min (Int.toNat (IntKind.u64.wrap (32 - a1))) 32)))))]) (mem' := fun _ => []) (RunsTo.mk [(2, { act := .shift }), (6, { act := .shift })] [4] [] (fun _ => [0 ≤ a1, 0 ≤ (IntKind.u64.wrap (32 - a1))]) (fun _ => by kernel_rfl) (fun _ => ⟨g3, g4, trivial⟩)) ?_
  intro _
  have hy := Option.some.inj hm
  subst hy
  refine GS.ret (fn := Try.f49) [0] [.int .u32 (ior .u32 (Int.fdiv a0 (2 ^ (min (Int.toNat a1) 32))) (IntKind.u32.wrap (a0 * 2 ^ (min (Int.toNat (IntKind.u64.wrap (32 - a1))) 32))))] [] rfl Try.func49 (by kernel_rfl) trivial (fun w' hs => ?_)
  exact ⟨(), rfl, hs.turnedG (ks := []) rfl rfl⟩

end Go.Proofs.Ytmjlfdllpnkgoaa
