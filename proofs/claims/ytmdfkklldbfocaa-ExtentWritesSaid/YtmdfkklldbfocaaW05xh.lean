/-
  CHAPTER 05x: the functions do what their models say (8).
-/
import Derived.Test.YtmdfkklldbfocaaM05x
import Derived.Test.YtmdfkklldbfocaaW05xa
import Derived.Test.YtmdfkklldbfocaaW05xc
import Derived.Test.YtmdfkklldbfocaaW05xf
import Derived.Test.YtmdfkklldbfocaaW05xg
set_option linter.unusedVariables false
set_option linter.unusedSimpArgs false
set_option maxRecDepth 100000
set_option maxHeartbeats 8000000
namespace Go.Proofs.Ytmdfkklldbfocaa
open Go Go.RowKit Sx

theorem w___extent_Map__Read (F : Nat) (a0b : Nat) (a0_first_h : Hds) (a0_first_l : List S_extent_run) (a0_size : Int) (a1 : Int) (a2 : Int) {y : List UInt8 × Int} (hm : m___extent_Map__Read F a0_first_l a0_size a1 a2 = some y) : CallG Try.prog 11 #[.pointer (some ⟨a0b, 0, none⟩), .int .i64 a1, .int .i64 a2] (X := Option Addr × Nat) (fun ⟨x0, x1⟩ => .tuple #[.slice x0 y.1.length x1, .int .i64 y.2]) [] [Ent.all (sgs 59 nX59 a0_first_h none a0_first_l), Ent.all (nins nJ59 a0_first_h a0_first_l), .rd (some ⟨a0b, 0, none⟩) 3 ([[.bool true, .pointer (sgp a0_first_h none a0_first_l), .int .i64 a0_size]] : List (List Value))] (fun ⟨x0, x1⟩ => [o5 x0 x1 y.1]) := by
  intro w hg
  rw [m___extent_Map__Read] at hm
  refine GS.start (S := mayT [] [Ent.all (sgs 59 nX59 a0_first_h none a0_first_l), Ent.all (nins nJ59 a0_first_h a0_first_l), .rd (some ⟨a0b, 0, none⟩) 3 ([[.bool true, .pointer (sgp a0_first_h none a0_first_l), .int .i64 a0_size]] : List (List Value))]) (mem := [(1, Ent.all (sgs 59 nX59 a0_first_h none a0_first_l)), (2, Ent.all (nins nJ59 a0_first_h a0_first_l)), (3, .rd (some ⟨a0b, 0, none⟩) 3 ([[.bool true, .pointer (sgp a0_first_h none a0_first_l), .int .i64 a0_size]] : List (List Value)))]) Try.func11 rfl Try.ntmps11 (Nat.le_of_ble_eq_true rfl) (hg.start rfl) ?_
  refine GS.conv (env' := [(0, .pointer (some ⟨a0b, 0, none⟩)), (1, .int .i64 a1), (2, .int .i64 a2)]) rfl rfl ?_
  refine GS.seq ?_
  refine GS.region (env' := fun _ => [(0, .pointer (some ⟨a0b, 0, none⟩)), (1, .int .i64 a1), (2, .int .i64 a2)]) (mem' := fun _ => [(1, Ent.all (sgs 59 nX59 a0_first_h none a0_first_l)), (2, Ent.all (nins nJ59 a0_first_h a0_first_l)), (3, .rd (some ⟨a0b, 0, none⟩) 3 ([[.bool true, .pointer (sgp a0_first_h none a0_first_l), .int .i64 a0_size]] : List (List Value)))]) (RunsTo.mk [] [0, 1, 2] [1, 2, 3] (fun _ => []) (fun _ => by kernel_rfl) (fun _ => trivial)) ?_
  intro _
  refine GS.seq ?_
  refine GS.block ?_
  refine GS.seq ?_
  refine bnd_elim hm (fun y3 e4 hm => ?_)
  refine GS.region (env' := fun _ => [(0, .pointer (some ⟨a0b, 0, none⟩)), (1, .int .i64 a1), (2, .int .i64 a2), (9, .bool false)]) (mem' := fun _ => [(1, Ent.all (sgs 59 nX59 a0_first_h none a0_first_l)), (2, Ent.all (nins nJ59 a0_first_h a0_first_l)), (3, .rd (some ⟨a0b, 0, none⟩) 3 ([[.bool true, .pointer (sgp a0_first_h none a0_first_l), .int .i64 a0_size]] : List (List Value)))]) (RunsTo.mk [(1, { act := .call [3] (.bool true) })] [0, 1, 2, 9] [1, 2, 3] (fun _ => [CallOK Try.prog 25 #[.pointer (some ⟨a0b, 0, none⟩)] (.bool true) [some (.rd (some ⟨a0b, 0, none⟩) 3 ([[.bool true, .pointer (sgp a0_first_h none a0_first_l), .int .i64 a0_size]] : List (List Value)))]]) (fun _ => by kernel_rfl) (fun _ => ⟨(by have h1 := w___extent_Map__is F a0b (.pointer (sgp a0_first_h none a0_first_l)) a0_size e4; exact h1.ok ⟨(.inl ⟨.rd (some ⟨a0b, 0, none⟩) 3 ([[.bool true, .pointer (sgp a0_first_h none a0_first_l), .int .i64 a0_size]] : List (List Value)), .head _, Cov.refl _⟩), trivial⟩), trivial⟩)) ?_
  intro _
  refine GS.cond (t := false) rfl rfl (fun hf => by cases hf) (fun _ => ?_)
  refine GS.seq ?_
  refine jn_elim hm (fun J7 hJ9 hm => ?_)
  refine GS.cut (ι := Bool) (I := fun (v13_1 : Bool) => J7 v13_1 = some y) (E := fun (v13_1 : Bool) => [(0, .pointer (some ⟨a0b, 0, none⟩)), (1, .int .i64 a1), (2, .int .i64 a2), (13, .bool v13_1)]) (M := fun (v13_1 : Bool) => [(1, Ent.all (sgs 59 nX59 a0_first_h none a0_first_l)), (2, Ent.all (nins nJ59 a0_first_h a0_first_l)), (3, .rd (some ⟨a0b, 0, none⟩) 3 ([[.bool true, .pointer (sgp a0_first_h none a0_first_l), .int .i64 a0_size]] : List (List Value)))]) ?_ ?_
  rotate_left
  · intro H8
    refine br_elim hm (fun h6 hm => ?_) (fun h6 hm => ?_)
    · skip
      refine GS.region (env' := fun _ => [(0, .pointer (some ⟨a0b, 0, none⟩)), (1, .int .i64 a1), (2, .int .i64 a2), (13, .bool true)]) (mem' := fun _ => [(1, Ent.all (sgs 59 nX59 a0_first_h none a0_first_l)), (2, Ent.all (nins nJ59 a0_first_h a0_first_l)), (3, .rd (some ⟨a0b, 0, none⟩) 3 ([[.bool true, .pointer (sgp a0_first_h none a0_first_l), .int .i64 a0_size]] : List (List Value)))]) (RunsTo.mk [(2, { sp := some (.bool true) })] [0, 1, 2, 13] [1, 2, 3] (fun _ => [((.bool (decide (a1 < 0))) : Value) = .bool true]) (fun _ => by kernel_rfl) (fun _ => ⟨bool_eq h6, trivial⟩)) ?_
      intro _
      refine GS.rekey (env' := [(0, .pointer (some ⟨a0b, 0, none⟩)), (1, .int .i64 a1), (2, .int .i64 a2), (13, .bool true)]) (mem' := [(1, Ent.all (sgs 59 nX59 a0_first_h none a0_first_l)), (2, Ent.all (nins nJ59 a0_first_h a0_first_l)), (3, .rd (some ⟨a0b, 0, none⟩) 3 ([[.bool true, .pointer (sgp a0_first_h none a0_first_l), .int .i64 a0_size]] : List (List Value)))]) [0, 1, 2, 13] [(1, 1), (2, 2), (3, 3)] (by kernel_rfl) (by kernel_rfl) rfl ?_
      exact H8 true hm
    · skip
      refine GS.region (env' := fun _ => [(0, .pointer (some ⟨a0b, 0, none⟩)), (1, .int .i64 a1), (2, .int .i64 a2), (13, .bool (decide (a2 < 0)))]) (mem' := fun _ => [(1, Ent.all (sgs 59 nX59 a0_first_h none a0_first_l)), (2, Ent.all (nins nJ59 a0_first_h a0_first_l)), (3, .rd (some ⟨a0b, 0, none⟩) 3 ([[.bool true, .pointer (sgp a0_first_h none a0_first_l), .int .i64 a0_size]] : List (List Value)))]) (RunsTo.mk [(2, { sp := some (.bool false) })] [0, 1, 2, 13] [1, 2, 3] (fun _ => [((.bool (decide (a1 < 0))) : Value) = .bool false]) (fun _ => by kernel_rfl) (fun _ => ⟨bool_eq h6, trivial⟩)) ?_
      intro _
      refine GS.rekey (env' := [(0, .pointer (some ⟨a0b, 0, none⟩)), (1, .int .i64 a1), (2, .int .i64 a2), (13, .bool (decide (a2 < 0)))]) (mem' := [(1, Ent.all (sgs 59 nX59 a0_first_h none a0_first_l)), (2, Ent.all (nins nJ59 a0_first_h a0_first_l)), (3, .rd (some ⟨a0b, 0, none⟩) 3 ([[.bool true, .pointer (sgp a0_first_h none a0_first_l), .int .i64 a0_size]] : List (List Value)))]) [0, 1, 2, 13] [(1, 1), (2, 2), (3, 3)] (by kernel_rfl) (by kernel_rfl) rfl ?_
      exact H8 (decide (a2 < 0)) hm
  · rintro v13_1 hm
    replace hm := (hJ9 _).symm.trans hm
    try dsimp only at hm
    refine GS.cond (t := v13_1) rfl rfl (fun h10 => ?_) (fun h10 => ?_)
    · replace hm := br_t h10 hm
      refine GS.seq ?_
      refine GS.region (env' := fun _ => [(6, .slice none 0 0), (7, .int .i64 22)]) (mem' := fun _ => []) (RunsTo.mk [] [6, 7] [] (fun _ => []) (fun _ => by kernel_rfl) (fun _ => trivial)) ?_
      intro _
      refine GS.setMem (mem' := [(4, o5 none 0 ([] : List UInt8))]) (fun w hw => Sat.addNil hw rfl) ?_
      have hy := Option.some.inj hm
      subst hy
      refine GS.ret (fn := Try.f11) [0, 0] [.slice none 0 0, .int .i64 22] [] rfl Try.func11 (by kernel_rfl) trivial (fun w' hs => ?_)
      exact ⟨⟨none, 0⟩, rfl, hs.turnedG (ks := [4]) rfl rfl⟩
    · replace hm := br_f h10 hm
      refine GS.seq ?_
      refine GS.region (env' := fun _ => [(0, .pointer (some ⟨a0b, 0, none⟩)), (1, .int .i64 a1), (2, .int .i64 a2), (20, .bool (decide (a1 ≥ a0_size)))]) (mem' := fun _ => [(1, Ent.all (sgs 59 nX59 a0_first_h none a0_first_l)), (2, Ent.all (nins nJ59 a0_first_h a0_first_l)), (3, .rd (some ⟨a0b, 0, none⟩) 3 ([[.bool true, .pointer (sgp a0_first_h none a0_first_l), .int .i64 a0_size]] : List (List Value)))]) (RunsTo.mk [(4, { act := .load 3 0 2 [.bool true, .pointer (sgp a0_first_h none a0_first_l), .int .i64 a0_size] })] [0, 1, 2, 20] [1, 2, 3] (fun _ => [a0b = blk (some ⟨a0b, 0, none⟩), 2 = offs (some ⟨a0b, 0, none⟩) + (0 * 3 + 2), ([[.bool true, .pointer (sgp a0_first_h none a0_first_l), .int .i64 a0_size]] : List (List Value))[0]? = some [.bool true, .pointer (sgp a0_first_h none a0_first_l), .int .i64 a0_size]]) (fun _ => by kernel_rfl) (fun _ => ⟨rfl, rfl, rfl, trivial⟩)) ?_
      intro _
      refine GS.cond (t := decide (a1 ≥ a0_size)) rfl rfl (fun h13 => ?_) (fun h13 => ?_)
      · replace hm := br_t h13 hm
        refine GS.seq ?_
        refine GS.region (env' := fun _ => [(6, .slice none 0 0), (7, .int .i64 0)]) (mem' := fun _ => []) (RunsTo.mk [] [6, 7] [] (fun _ => []) (fun _ => by kernel_rfl) (fun _ => trivial)) ?_
        intro _
        refine GS.setMem (mem' := [(4, o5 none 0 ([] : List UInt8))]) (fun w hw => Sat.addNil hw rfl) ?_
        have hy := Option.some.inj hm
        subst hy
        refine GS.ret (fn := Try.f11) [0, 0] [.slice none 0 0, .int .i64 0] [] rfl Try.func11 (by kernel_rfl) trivial (fun w' hs => ?_)
        exact ⟨⟨none, 0⟩, rfl, hs.turnedG (ks := [4]) rfl rfl⟩
      · replace hm := br_f h13 hm
        refine GS.skip ?_
        refine GS.inBlock ?_
        refine GS.seq ?_
        refine bnd_elim hm (fun y16 e17 hm => ?_)
        refine GS.open_ ?_
        refine GR.run (i := 0) 1 (env' := fun _ => [(1, .int .i64 a1), (2, .int .i64 a2), (27, .pointer (some ⟨a0b, 0, none⟩))]) (mem' := fun _ => [(1, Ent.all (sgs 59 nX59 a0_first_h none a0_first_l)), (2, Ent.all (nins nJ59 a0_first_h a0_first_l)), (3, .rd (some ⟨a0b, 0, none⟩) 3 ([[.bool true, .pointer (sgp a0_first_h none a0_first_l), .int .i64 a0_size]] : List (List Value)))]) (Nat.le_of_ble_eq_true (by kernel_rfl)) (RunsTo.mk [] [1, 2, 27] [1, 2, 3] (fun _ => []) (fun _ => by kernel_rfl) (fun _ => trivial)) ?_
        intro _
        refine GR.callG (X := Option Addr × Nat) (i := 1) (g := 17) (args := #[.pointer (some ⟨a0b, 0, none⟩)]) (v := fun ⟨x18, x19⟩ => .slice x18 y16.length x19) (own := []) (ro := [Ent.all (sgs 59 nX59 a0_first_h none a0_first_l), Ent.all (nins nJ59 a0_first_h a0_first_l), .rd (some ⟨a0b, 0, none⟩) 3 ([[.bool true, .pointer (sgp a0_first_h none a0_first_l), .int .i64 a0_size]] : List (List Value))]) (es' := fun ⟨x18, x19⟩ => [o5 x18 x19 y16]) (mem' := fun ⟨x18, x19⟩ => [(1, Ent.all (sgs 59 nX59 a0_first_h none a0_first_l)), (2, Ent.all (nins nJ59 a0_first_h a0_first_l)), (3, .rd (some ⟨a0b, 0, none⟩) 3 ([[.bool true, .pointer (sgp a0_first_h none a0_first_l), .int .i64 a0_size]] : List (List Value))), (4, o5 x18 x19 y16)]) (env' := fun ⟨x18, x19⟩ => [(1, .int .i64 a1), (2, .int .i64 a2), (28, .slice x18 y16.length x19)]) [] [4] [1, 2, 28] [1, 2, 3, 4] false (by kernel_rfl) (by kernel_rfl) (by kernel_rfl) (by kernel_rfl) (by kernel_rfl) (fun _ => rfl) (fun _ _ => rfl) ⟨(.inl ⟨1, _, rfl, rfl, Cov.refl _, fun h => by cases h⟩), (.inl ⟨2, _, rfl, rfl, Cov.refl _, fun h => by cases h⟩), (.inl ⟨3, _, rfl, rfl, Cov.refl _, fun h => by cases h⟩), trivial⟩ (by rintro ⟨x18, x19⟩; kernel_rfl) (by rintro ⟨x18, x19⟩; kernel_rfl) ((by have h1 := w___extent_Map__Bytes_2 F a0b a0_first_h a0_first_l a0_size e17; exact h1)) ?_
        rintro ⟨x18, x19⟩
        refine grd_elim hm (fun g21 hm => ?_)
        refine GR.know (p := y16.length ≤ x19) (fun w hw => by first | (have h := (hw.ok 4 _ rfl).1.1; rw [List.length_map] at h; exact h) | (have h := (hw.ok 4 _ rfl).1.1; rw [nrows_len] at h; exact h) | simpa using (hw.ok 4 _ rfl).1.1) (fun k22 => ?_)
        refine GR.run (i := 2) 3 (env' := fun _ => [(2, .int .i64 a2), (8, .slice (cutOb x18 (Int.toNat a1) x19 1) (((y16.drop (Int.toNat a1)).take (y16.length - (Int.toNat a1))).length) (x19 - (Int.toNat a1)))]) (mem' := fun _ => [(4, o5 x18 x19 y16)]) (Nat.le_of_ble_eq_true (by kernel_rfl)) (RunsTo.mk [(3, { act := .cut (Int.toNat a1) y16.length x19, sp := some (.slice (cutOb x18 (Int.toNat a1) x19 1) (((y16.drop (Int.toNat a1)).take (y16.length - (Int.toNat a1))).length) (x19 - (Int.toNat a1))) })] [2, 8] [4] (fun _ => [a1 = (((Int.toNat a1) : Nat) : Int), y16.length = y16.length, x19 = x19, (Int.toNat a1) ≤ y16.length, y16.length ≤ x19, x19 ≤ x19, (none : Option Operand) = none → (none : Option Operand) = none, ((.slice (if x19 = (Int.toNat a1) then x18 else (x18).map (fun a => a.add ((Int.toNat a1) * 1))) (y16.length - (Int.toNat a1)) (x19 - (Int.toNat a1))) : Value) = .slice (cutOb x18 (Int.toNat a1) x19 1) (((y16.drop (Int.toNat a1)).take (y16.length - (Int.toNat a1))).length) (x19 - (Int.toNat a1))]) (fun _ => by kernel_rfl) (fun _ => ⟨g21.eq, rfl, rfl, g21.2, (Nat.le_trans (Nat.le_refl _) k22), (Nat.le_refl _), (by intro h; first | rfl | cases h), slen (by simp only [List.length_take, List.length_drop]; have h1 : y16.length ≤ y16.length := (Nat.le_refl _); have h2 : (Int.toNat a1) ≤ y16.length := g21.2; omega), trivial⟩)) ?_
        intro _
        refine GR.setMem (mem' := [(5, .osl (cutOb x18 (Int.toNat a1) x19 1) (x19 - (Int.toNat a1)) 5 1 (((List.map rB y16).drop (Int.toNat a1)).take (y16.length - (Int.toNat a1))))]) (fun w hw => own_cov (K := 4) (K2 := 5) [5] hw rfl rfl (own_cut g21.2 (Nat.le_trans (Nat.le_refl _) k22)) (by kernel_rfl)) ?_
        refine GR.conv (mem' := [(5, o5 (cutOb x18 (Int.toNat a1) x19 1) (x19 - (Int.toNat a1)) ((y16.drop (Int.toNat a1)).take (y16.length - (Int.toNat a1))))]) rfl (congrArg (fun rr : List (List Value) => ([(5, .osl (cutOb x18 (Int.toNat a1) x19 1) (x19 - (Int.toNat a1)) 5 1 rr)] : List (Nat × Ent))) (show ((List.map rB y16).drop (Int.toNat a1)).take (y16.length - (Int.toNat a1)) = List.map rB ((y16.drop (Int.toNat a1)).take (y16.length - (Int.toNat a1))) from (by simp only [List.drop_zero, Nat.sub_zero, List.map_take, List.map_drop]))) ?_
        refine GR.done (Nat.le_of_ble_eq_true (by kernel_rfl)) ?_
        refine GS.seq ?_
        refine grd_elim hm (fun g24 hm => ?_)
        refine GS.region (env' := fun _ => [(6, .slice (cutOb (cutOb x18 (Int.toNat a1) x19 1) 0 (x19 - (Int.toNat a1)) 1) ((((y16.drop (Int.toNat a1)).take (y16.length - (Int.toNat a1))).take (Int.toNat (if ((((y16.drop (Int.toNat a1)).take (y16.length - (Int.toNat a1))).length : Nat) : Int) < a2 then ((((y16.drop (Int.toNat a1)).take (y16.length - (Int.toNat a1))).length : Nat) : Int) else a2))).length) ((x19 - (Int.toNat a1)) - 0)), (7, .int .i64 0)]) (mem' := fun _ => [(5, o5 (cutOb x18 (Int.toNat a1) x19 1) (x19 - (Int.toNat a1)) ((y16.drop (Int.toNat a1)).take (y16.length - (Int.toNat a1))))]) (RunsTo.mk [(5, { act := .cut 0 (Int.toNat (if ((((y16.drop (Int.toNat a1)).take (y16.length - (Int.toNat a1))).length : Nat) : Int) < a2 then ((((y16.drop (Int.toNat a1)).take (y16.length - (Int.toNat a1))).length : Nat) : Int) else a2)) (x19 - (Int.toNat a1)), sp := some (.slice (cutOb (cutOb x18 (Int.toNat a1) x19 1) 0 (x19 - (Int.toNat a1)) 1) ((((y16.drop (Int.toNat a1)).take (y16.length - (Int.toNat a1))).take (Int.toNat (if ((((y16.drop (Int.toNat a1)).take (y16.length - (Int.toNat a1))).length : Nat) : Int) < a2 then ((((y16.drop (Int.toNat a1)).take (y16.length - (Int.toNat a1))).length : Nat) : Int) else a2))).length) ((x19 - (Int.toNat a1)) - 0)) })] [6, 7] [5] (fun _ => [0 = 0, (if ((((y16.drop (Int.toNat a1)).take (y16.length - (Int.toNat a1))).length : Nat) : Int) < a2 then ((((y16.drop (Int.toNat a1)).take (y16.length - (Int.toNat a1))).length : Nat) : Int) else a2) = (((Int.toNat (if ((((y16.drop (Int.toNat a1)).take (y16.length - (Int.toNat a1))).length : Nat) : Int) < a2 then ((((y16.drop (Int.toNat a1)).take (y16.length - (Int.toNat a1))).length : Nat) : Int) else a2)) : Nat) : Int), (x19 - (Int.toNat a1)) = (x19 - (Int.toNat a1)), 0 ≤ (Int.toNat (if ((((y16.drop (Int.toNat a1)).take (y16.length - (Int.toNat a1))).length : Nat) : Int) < a2 then ((((y16.drop (Int.toNat a1)).take (y16.length - (Int.toNat a1))).length : Nat) : Int) else a2)), (Int.toNat (if ((((y16.drop (Int.toNat a1)).take (y16.length - (Int.toNat a1))).length : Nat) : Int) < a2 then ((((y16.drop (Int.toNat a1)).take (y16.length - (Int.toNat a1))).length : Nat) : Int) else a2)) ≤ x19 - (Int.toNat a1), x19 - (Int.toNat a1) ≤ x19 - (Int.toNat a1), (some (Operand.tmp 35) : Option Operand) = none → (none : Option Operand) = none, ((.slice (if x19 - (Int.toNat a1) = 0 then cutOb x18 (Int.toNat a1) x19 1 else (cutOb x18 (Int.toNat a1) x19 1).map (fun a => a.add (0 * 1))) ((Int.toNat (if ((((y16.drop (Int.toNat a1)).take (y16.length - (Int.toNat a1))).length : Nat) : Int) < a2 then ((((y16.drop (Int.toNat a1)).take (y16.length - (Int.toNat a1))).length : Nat) : Int) else a2)) - 0) ((x19 - (Int.toNat a1)) - 0)) : Value) = .slice (cutOb (cutOb x18 (Int.toNat a1) x19 1) 0 (x19 - (Int.toNat a1)) 1) ((((y16.drop (Int.toNat a1)).take (y16.length - (Int.toNat a1))).take (Int.toNat (if ((((y16.drop (Int.toNat a1)).take (y16.length - (Int.toNat a1))).length : Nat) : Int) < a2 then ((((y16.drop (Int.toNat a1)).take (y16.length - (Int.toNat a1))).length : Nat) : Int) else a2))).length) ((x19 - (Int.toNat a1)) - 0)]) (fun _ => by kernel_rfl) (fun _ => ⟨rfl, g24.eq, rfl, (Nat.zero_le _), (Nat.le_trans g24.2 (by simp only [List.length_take, List.length_drop]; have h1 : y16.length ≤ x19 := (Nat.le_trans (Nat.le_refl _) k22); have h2 : (Int.toNat a1) ≤ y16.length := g21.2; omega)), (Nat.le_refl _), (by intro h; first | rfl | cases h), slen (by simp only [List.length_take, List.length_drop]; have h1 : (Int.toNat (if ((((y16.drop (Int.toNat a1)).take (y16.length - (Int.toNat a1))).length : Nat) : Int) < a2 then ((((y16.drop (Int.toNat a1)).take (y16.length - (Int.toNat a1))).length : Nat) : Int) else a2)) ≤ ((y16.drop (Int.toNat a1)).take (y16.length - (Int.toNat a1))).length := g24.2; have h2 : 0 ≤ (Int.toNat (if ((((y16.drop (Int.toNat a1)).take (y16.length - (Int.toNat a1))).length : Nat) : Int) < a2 then ((((y16.drop (Int.toNat a1)).take (y16.length - (Int.toNat a1))).length : Nat) : Int) else a2)) := (Nat.zero_le _); omega), trivial⟩)) ?_
        intro _
        refine GS.setMem (mem' := [(6, .osl (cutOb (cutOb x18 (Int.toNat a1) x19 1) 0 (x19 - (Int.toNat a1)) 1) ((x19 - (Int.toNat a1)) - 0) 5 1 (((List.map rB ((y16.drop (Int.toNat a1)).take (y16.length - (Int.toNat a1)))).drop 0).take ((Int.toNat (if ((((y16.drop (Int.toNat a1)).take (y16.length - (Int.toNat a1))).length : Nat) : Int) < a2 then ((((y16.drop (Int.toNat a1)).take (y16.length - (Int.toNat a1))).length : Nat) : Int) else a2)) - 0)))]) (fun w hw => own_cov (K := 5) (K2 := 6) [6] hw rfl rfl (own_cut (Nat.zero_le _) (Nat.le_trans g24.2 (by simp only [List.length_take, List.length_drop]; have h1 : y16.length ≤ x19 := (Nat.le_trans (Nat.le_refl _) k22); have h2 : (Int.toNat a1) ≤ y16.length := g21.2; omega))) (by kernel_rfl)) ?_
        refine GS.conv (mem' := [(6, o5 (cutOb (cutOb x18 (Int.toNat a1) x19 1) 0 (x19 - (Int.toNat a1)) 1) ((x19 - (Int.toNat a1)) - 0) (((y16.drop (Int.toNat a1)).take (y16.length - (Int.toNat a1))).take (Int.toNat (if ((((y16.drop (Int.toNat a1)).take (y16.length - (Int.toNat a1))).length : Nat) : Int) < a2 then ((((y16.drop (Int.toNat a1)).take (y16.length - (Int.toNat a1))).length : Nat) : Int) else a2))))]) rfl (congrArg (fun rr : List (List Value) => ([(6, .osl (cutOb (cutOb x18 (Int.toNat a1) x19 1) 0 (x19 - (Int.toNat a1)) 1) ((x19 - (Int.toNat a1)) - 0) 5 1 rr)] : List (Nat × Ent))) (show ((List.map rB ((y16.drop (Int.toNat a1)).take (y16.length - (Int.toNat a1)))).drop 0).take ((Int.toNat (if ((((y16.drop (Int.toNat a1)).take (y16.length - (Int.toNat a1))).length : Nat) : Int) < a2 then ((((y16.drop (Int.toNat a1)).take (y16.length - (Int.toNat a1))).length : Nat) : Int) else a2)) - 0) = List.map rB (((y16.drop (Int.toNat a1)).take (y16.length - (Int.toNat a1))).take (Int.toNat (if ((((y16.drop (Int.toNat a1)).take (y16.length - (Int.toNat a1))).length : Nat) : Int) < a2 then ((((y16.drop (Int.toNat a1)).take (y16.length - (Int.toNat a1))).length : Nat) : Int) else a2))) from (by simp only [List.drop_zero, Nat.sub_zero, List.map_take, List.map_drop]))) ?_
        have hy := Option.some.inj hm
        subst hy
        refine GS.ret (fn := Try.f11) [0, 0] [.slice (cutOb (cutOb x18 (Int.toNat a1) x19 1) 0 (x19 - (Int.toNat a1)) 1) ((((y16.drop (Int.toNat a1)).take (y16.length - (Int.toNat a1))).take (Int.toNat (if ((((y16.drop (Int.toNat a1)).take (y16.length - (Int.toNat a1))).length : Nat) : Int) < a2 then ((((y16.drop (Int.toNat a1)).take (y16.length - (Int.toNat a1))).length : Nat) : Int) else a2))).length) ((x19 - (Int.toNat a1)) - 0), .int .i64 0] [] rfl Try.func11 (by kernel_rfl) trivial (fun w' hs => ?_)
        exact ⟨⟨cutOb (cutOb x18 (Int.toNat a1) x19 1) 0 (x19 - (Int.toNat a1)) 1, (x19 - (Int.toNat a1)) - 0⟩, rfl, hs.turnedG (ks := [6]) rfl rfl⟩

theorem w_tholelaw05_ExtentWrites (F : Nat) (a0_o : Option Addr) (a0_c : Nat) (a0 : List UInt8) (a1_o : Option Addr) (a1_c : Nat) (a1 : List UInt8) (a2_0 : Int) (a2_1 : Int) {y : Bool} (hm : m_tholelaw05_ExtentWrites F a0 a1 a2_0 a2_1 = some y) : CallG Try.prog 3 #[.slice a0_o a0.length a0_c, .slice a1_o a1.length a1_c, .agg #[.int .u64 a2_0, .int .u64 a2_1]] (X := Unit) (fun (_ : Unit) => .bool y) [] [r5 a0_o a0, r5 a1_o a1] (fun (_ : Unit) => []) := by
  intro w hg
  rw [m_tholelaw05_ExtentWrites] at hm
  refine GS.start (S := mayT [] [r5 a0_o a0, r5 a1_o a1]) (mem := [(1, r5 a0_o a0), (2, r5 a1_o a1)]) Try.func3 rfl Try.ntmps3 (Nat.le_of_ble_eq_true rfl) (hg.start rfl) ?_
  refine GS.conv (env' := [(0, .slice a0_o a0.length a0_c), (1, .slice a1_o a1.length a1_c), (2, .agg #[.int .u64 a2_0, .int .u64 a2_1])]) rfl rfl ?_
  refine GS.seq ?_
  refine GS.region (env' := fun fr1 => [(0, .slice a0_o a0.length a0_c), (1, .slice a1_o a1.length a1_c), (5, .pointer (some ⟨(fr1 0).x, 0, none⟩))]) (mem' := fun fr1 => [(1, r5 a0_o a0), (2, r5 a1_o a1), (3, .cells ((fr1 0).x) 24 [.int .u64 a2_0, .int .u64 a2_1])]) (RunsTo.mk [(0, { act := .new .var, key := some 3 })] [0, 1, 5] [1, 2, 3] (fun fr1 => []) (fun fr1 => by kernel_rfl) (fun fr1 => trivial)) ?_
  intro fr1
  refine GS.seq ?_
  refine GS.region (env' := fun _ => [(0, .slice a0_o a0.length a0_c), (1, .slice a1_o a1.length a1_c), (7, .int .u64 a2_0), (8, .int .u64 a2_1)]) (mem' := fun _ => [(1, r5 a0_o a0), (2, r5 a1_o a1)]) (RunsTo.mkd [(1, { act := .load 3 0 0 [] }), (3, { act := .load 3 0 0 [] })] [0, 1, 7, 8] [1, 2] (fun _ => [(fr1 0).x = (fr1 0).x, (fr1 0).x = (fr1 0).x]) (by kernel_rfl) (by kernel_rfl) (fun _ => by kernel_rfl) (fun _ => ⟨rfl, rfl, trivial⟩)) ?_
  intro _
  refine GS.seq ?_
  refine bnd_elim hm (fun y4 e5 hm => ?_)
  refine GS.open_ ?_
  refine GR.callG (X := Nat) (i := 0) (g := 8) (args := #[]) (v := fun (x6 : Nat) => .pointer (some ⟨x6, 0, none⟩)) (own := []) (ro := []) (es' := fun (x6 : Nat) => [.cells x6 56 [.bool true, .pointer none, .int .i64 y4]]) (mem' := fun (x6 : Nat) => [(1, r5 a0_o a0), (2, r5 a1_o a1), (4, .cells x6 56 [.bool true, .pointer none, .int .i64 y4])]) (env' := fun (x6 : Nat) => [(0, .slice a0_o a0.length a0_c), (1, .slice a1_o a1.length a1_c), (7, .int .u64 a2_0), (8, .int .u64 a2_1), (25, .pointer (some ⟨x6, 0, none⟩))]) [] [4] [0, 1, 7, 8, 25] [1, 2, 4] false (by kernel_rfl) (by kernel_rfl) (by kernel_rfl) (by kernel_rfl) (by kernel_rfl) (fun _ => rfl) (fun _ _ => rfl) trivial (by rintro x6; kernel_rfl) (by rintro x6; kernel_rfl) ((by have h1 := w_extent_New F  e5; exact h1)) ?_
  rintro x6
  refine GR.run (i := 1) 1 (env' := fun _ => [(0, .slice a0_o a0.length a0_c), (1, .slice a1_o a1.length a1_c), (7, .int .u64 a2_0), (8, .int .u64 a2_1), (9, .pointer (some ⟨x6, 0, none⟩))]) (mem' := fun _ => [(1, r5 a0_o a0), (2, r5 a1_o a1), (4, .cells x6 56 [.bool true, .pointer none, .int .i64 y4])]) (Nat.le_of_ble_eq_true (by kernel_rfl)) (RunsTo.mk [] [0, 1, 7, 8, 9] [1, 2, 4] (fun _ => []) (fun _ => by kernel_rfl) (fun _ => trivial)) ?_
  intro _
  refine GR.done (Nat.le_of_ble_eq_true (by kernel_rfl)) ?_
  refine GS.seq ?_
  refine GS.seq ?_
  refine GS.setMem (mem' := [(1, r5 a0_o a0), (2, r5 a1_o a1), (4, .cells x6 56 [.bool true, .pointer none, .int .i64 y4]), (5, bag (sgs 59 nX59 (fun _ => nilH) none ([] : List S_extent_run))), (6, Ent.all (nins nJ59 (fun _ => nilH) ([] : List S_extent_run)))]) (fun w hw => ch_nil (α := S_extent_run) (k := 5) (ik := 6) (T := 59) (X := nX59) (h := fun _ => nilH) (q := none) (J := nJ59) (h2 := fun _ => nilH) [1, 2, 4, 5, 6] hw (by kernel_rfl)) ?_
  refine GS.conv (env' := [(0, .slice a0_o a0.length a0_c), (1, .slice a1_o a1.length a1_c), (7, .int .u64 a2_0), (8, .int .u64 a2_1), (9, .pointer (some ⟨x6, 0, none⟩))]) (mem' := [(1, r5 a0_o a0), (2, r5 a1_o a1), (4, .cells x6 56 [.bool true, .pointer (sgp (fun _ => nilH) none ([] : List S_extent_run)), .int .i64 y4]), (5, bag (sgs 59 nX59 (fun _ => nilH) none ([] : List S_extent_run))), (6, Ent.all (nins nJ59 (fun _ => nilH) ([] : List S_extent_run)))]) (rfl) (rfl) ?_
  refine jn_elim hm (fun J15 hJ17 hm => ?_)
  refine GS.cut (ι := Bool × Int × List S_extent_run × Hds) (I := fun ⟨v43_1, c4_2_1, l5_1, h5_1⟩ => J15 (v43_1, c4_2_1, l5_1) = some y) (E := fun ⟨v43_1, c4_2_1, l5_1, h5_1⟩ => [(0, .slice a0_o a0.length a0_c), (1, .slice a1_o a1.length a1_c), (7, .int .u64 a2_0), (8, .int .u64 a2_1), (9, .pointer (some ⟨x6, 0, none⟩)), (43, .bool v43_1)]) (M := fun ⟨v43_1, c4_2_1, l5_1, h5_1⟩ => [(1, r5 a0_o a0), (2, r5 a1_o a1), (4, .cells x6 56 [.bool true, .pointer (sgp h5_1 none l5_1), .int .i64 c4_2_1]), (5, bag (sgs 59 nX59 h5_1 none l5_1)), (6, Ent.all (nins nJ59 h5_1 l5_1))]) ?_ ?_
  rotate_left
  · intro H16
    refine br_elim hm (fun h9 hm => ?_) (fun h9 hm => ?_)
    · skip
      refine GS.region (env' := fun _ => [(0, .slice a0_o a0.length a0_c), (1, .slice a1_o a1.length a1_c), (7, .int .u64 a2_0), (8, .int .u64 a2_1), (9, .pointer (some ⟨x6, 0, none⟩)), (43, .bool true)]) (mem' := fun _ => [(1, r5 a0_o a0), (2, r5 a1_o a1), (4, .cells x6 56 [.bool true, .pointer (sgp (fun _ => nilH) none ([] : List S_extent_run)), .int .i64 y4]), (5, bag (sgs 59 nX59 (fun _ => nilH) none ([] : List S_extent_run))), (6, Ent.all (nins nJ59 (fun _ => nilH) ([] : List S_extent_run)))]) (RunsTo.mk [(7, { sp := some (.bool true) })] [0, 1, 7, 8, 9, 43] [1, 2, 4, 5, 6] (fun _ => [((.bool (decide (((a0.length : Nat) : Int) > 4000))) : Value) = .bool true]) (fun _ => by kernel_rfl) (fun _ => ⟨bool_eq h9, trivial⟩)) ?_
      intro _
      refine GS.rekey (env' := [(0, .slice a0_o a0.length a0_c), (1, .slice a1_o a1.length a1_c), (7, .int .u64 a2_0), (8, .int .u64 a2_1), (9, .pointer (some ⟨x6, 0, none⟩)), (43, .bool true)]) (mem' := [(1, r5 a0_o a0), (2, r5 a1_o a1), (4, .cells x6 56 [.bool true, .pointer (sgp (fun _ => nilH) none ([] : List S_extent_run)), .int .i64 y4]), (5, bag (sgs 59 nX59 (fun _ => nilH) none ([] : List S_extent_run))), (6, Ent.all (nins nJ59 (fun _ => nilH) ([] : List S_extent_run)))]) [0, 1, 7, 8, 9, 43] [(1, 1), (2, 2), (4, 4), (5, 5), (6, 6)] (by kernel_rfl) (by kernel_rfl) rfl ?_
      exact H16 ⟨true, y4, ([] : List S_extent_run), (fun _ => nilH)⟩ hm
    · skip
      refine br_elim hm (fun h10 hm => ?_) (fun h10 hm => ?_)
      · skip
        refine GS.region (env' := fun _ => [(0, .slice a0_o a0.length a0_c), (1, .slice a1_o a1.length a1_c), (7, .int .u64 a2_0), (8, .int .u64 a2_1), (9, .pointer (some ⟨x6, 0, none⟩)), (43, .bool true)]) (mem' := fun _ => [(1, r5 a0_o a0), (2, r5 a1_o a1), (4, .cells x6 56 [.bool true, .pointer (sgp (fun _ => nilH) none ([] : List S_extent_run)), .int .i64 y4]), (5, bag (sgs 59 nX59 (fun _ => nilH) none ([] : List S_extent_run))), (6, Ent.all (nins nJ59 (fun _ => nilH) ([] : List S_extent_run)))]) (RunsTo.mk [(7, { sp := some (.bool false) }), (12, { sp := some (.bool true) })] [0, 1, 7, 8, 9, 43] [1, 2, 4, 5, 6] (fun _ => [((.bool (decide (((a0.length : Nat) : Int) > 4000))) : Value) = .bool false, ((.bool (decide (((a1.length : Nat) : Int) > 90))) : Value) = .bool true]) (fun _ => by kernel_rfl) (fun _ => ⟨bool_eq h9, bool_eq h10, trivial⟩)) ?_
        intro _
        refine GS.rekey (env' := [(0, .slice a0_o a0.length a0_c), (1, .slice a1_o a1.length a1_c), (7, .int .u64 a2_0), (8, .int .u64 a2_1), (9, .pointer (some ⟨x6, 0, none⟩)), (43, .bool true)]) (mem' := [(1, r5 a0_o a0), (2, r5 a1_o a1), (4, .cells x6 56 [.bool true, .pointer (sgp (fun _ => nilH) none ([] : List S_extent_run)), .int .i64 y4]), (5, bag (sgs 59 nX59 (fun _ => nilH) none ([] : List S_extent_run))), (6, Ent.all (nins nJ59 (fun _ => nilH) ([] : List S_extent_run)))]) [0, 1, 7, 8, 9, 43] [(1, 1), (2, 2), (4, 4), (5, 5), (6, 6)] (by kernel_rfl) (by kernel_rfl) rfl ?_
        exact H16 ⟨true, y4, ([] : List S_extent_run), (fun _ => nilH)⟩ hm
      · skip
        refine bnd_elim hm (fun y11 e12 hm => ?_)
        refine GS.open_ ?_
        refine GR.run (i := 0) 15 (env' := fun _ => [(0, .slice a0_o a0.length a0_c), (1, .slice a1_o a1.length a1_c), (7, .int .u64 a2_0), (8, .int .u64 a2_1), (9, .pointer (some ⟨x6, 0, none⟩)), (38, .bool false), (39, .pointer (some ⟨x6, 0, none⟩)), (40, .slice a0_o a0.length a0_c)]) (mem' := fun _ => [(1, r5 a0_o a0), (2, r5 a1_o a1), (4, .cells x6 56 [.bool true, .pointer (sgp (fun _ => nilH) none ([] : List S_extent_run)), .int .i64 y4]), (5, bag (sgs 59 nX59 (fun _ => nilH) none ([] : List S_extent_run))), (6, Ent.all (nins nJ59 (fun _ => nilH) ([] : List S_extent_run)))]) (Nat.le_of_ble_eq_true (by kernel_rfl)) (RunsTo.mk [(7, { sp := some (.bool false) }), (12, { sp := some (.bool false) })] [0, 1, 7, 8, 9, 38, 39, 40] [1, 2, 4, 5, 6] (fun _ => [((.bool (decide (((a0.length : Nat) : Int) > 4000))) : Value) = .bool false, ((.bool (decide (((a1.length : Nat) : Int) > 90))) : Value) = .bool false]) (fun _ => by kernel_rfl) (fun _ => ⟨bool_eq h9, bool_eq h10, trivial⟩)) ?_
        intro _
        refine GR.callG (X := Hds) (i := 15) (g := 9) (args := #[.pointer (some ⟨x6, 0, none⟩), .int .i64 0, .slice a0_o a0.length a0_c]) (v := fun (x13 : Hds) => .int .i64 y11.1) (own := [bag (sgs 59 nX59 (fun _ => nilH) none ([] : List S_extent_run)), .cells x6 56 [.bool true, .pointer (sgp (fun _ => nilH) none ([] : List S_extent_run)), .int .i64 y4]]) (ro := [Ent.all (nins nJ59 (fun _ => nilH) ([] : List S_extent_run)), r5 a0_o a0]) (es' := fun (x13 : Hds) => [bag (sgs 59 nX59 x13 none y11.2.1), Ent.all (nins nJ59 x13 y11.2.1), .cells x6 56 [.bool true, .pointer (sgp x13 none y11.2.1), .int .i64 y11.2.2]]) (mem' := fun (x13 : Hds) => [(1, r5 a0_o a0), (2, r5 a1_o a1), (4, .cells x6 56 [.bool true, .pointer (sgp x13 none y11.2.1), .int .i64 y11.2.2]), (6, Ent.all (nins nJ59 (fun _ => nilH) ([] : List S_extent_run))), (7, bag (sgs 59 nX59 x13 none y11.2.1)), (8, Ent.all (nins nJ59 x13 y11.2.1))]) (env' := fun (x13 : Hds) => [(0, .slice a0_o a0.length a0_c), (1, .slice a1_o a1.length a1_c), (7, .int .u64 a2_0), (8, .int .u64 a2_1), (9, .pointer (some ⟨x6, 0, none⟩)), (38, .bool false), (41, .int .i64 y11.1)]) [5, 4] [7, 8, 4] [0, 1, 7, 8, 9, 38, 41] [1, 2, 4, 6, 7, 8] true (by kernel_rfl) (by kernel_rfl) (by kernel_rfl) (by kernel_rfl) (by kernel_rfl) (fun _ => rfl) (fun h => by cases h) ⟨(.inl ⟨6, _, rfl, rfl, Cov.refl _, fun _ => rfl⟩), (.inl ⟨1, _, rfl, rfl, Cov.refl _, fun _ => rfl⟩), trivial⟩ (by rintro x13; kernel_rfl) (by rintro x13; kernel_rfl) ((by have h1 := w___extent_Map__Write F x6 (fun _ => nilH) ([] : List S_extent_run) y4 0 a0_o a0_c a0 e12; exact h1)) ?_
        rintro x13
        refine GR.run (i := 16) 2 (env' := fun _ => [(0, .slice a0_o a0.length a0_c), (1, .slice a1_o a1.length a1_c), (7, .int .u64 a2_0), (8, .int .u64 a2_1), (9, .pointer (some ⟨x6, 0, none⟩)), (43, .bool (y11.1 != 0))]) (mem' := fun _ => [(1, r5 a0_o a0), (2, r5 a1_o a1), (4, .cells x6 56 [.bool true, .pointer (sgp x13 none y11.2.1), .int .i64 y11.2.2]), (7, bag (sgs 59 nX59 x13 none y11.2.1)), (8, Ent.all (nins nJ59 x13 y11.2.1))]) (Nat.le_of_ble_eq_true (by kernel_rfl)) (RunsTo.mk [] [0, 1, 7, 8, 9, 43] [1, 2, 4, 7, 8] (fun _ => []) (fun _ => by kernel_rfl) (fun _ => trivial)) ?_
        intro _
        refine GR.done (Nat.le_of_ble_eq_true (by kernel_rfl)) ?_
        refine GS.rekey (env' := [(0, .slice a0_o a0.length a0_c), (1, .slice a1_o a1.length a1_c), (7, .int .u64 a2_0), (8, .int .u64 a2_1), (9, .pointer (some ⟨x6, 0, none⟩)), (43, .bool (y11.1 != 0))]) (mem' := [(1, r5 a0_o a0), (2, r5 a1_o a1), (4, .cells x6 56 [.bool true, .pointer (sgp x13 none y11.2.1), .int .i64 y11.2.2]), (5, bag (sgs 59 nX59 x13 none y11.2.1)), (6, Ent.all (nins nJ59 x13 y11.2.1))]) [0, 1, 7, 8, 9, 43] [(1, 1), (2, 2), (4, 4), (5, 7), (6, 8)] (by kernel_rfl) (by kernel_rfl) rfl ?_
        exact H16 ⟨(y11.1 != 0), y11.2.2, y11.2.1, x13⟩ hm
  · rintro ⟨v43_1, c4_2_1, l5_1, h5_1⟩ hm
    replace hm := (hJ17 _).symm.trans hm
    try dsimp only at hm
    refine GS.cond (t := v43_1) rfl rfl (fun h18 => ?_) (fun h18 => ?_)
    · replace hm := br_t h18 hm
      refine GS.seq ?_
      refine bnd_elim hm (fun y20 e21 hm => ?_)
      refine GS.region (env' := fun _ => [(6, .bool true)]) (mem' := fun _ => []) (RunsTo.mk [(3, { act := .call [] (.bool true) })] [6] [] (fun _ => [CallOK Try.prog 10 #[] (.bool true) []]) (fun _ => by kernel_rfl) (fun _ => ⟨(by have h1 := w_tholelaw05_lives F  e21; exact h1.ok trivial), trivial⟩)) ?_
      intro _
      have hy := Option.some.inj hm
      subst hy
      refine GS.ret (fn := Try.f3) [0] [.bool true] [] rfl Try.func3 (by kernel_rfl) trivial (fun w' hs => ?_)
      exact ⟨(), rfl, hs.turnedG (ks := []) rfl rfl⟩
    · replace hm := br_f h18 hm
      refine GS.skip ?_
      refine GS.seq ?_
      refine GS.region (env' := fun _ => [(0, .slice a0_o a0.length a0_c), (1, .slice a1_o a1.length a1_c), (8, .int .u64 a2_1), (9, .pointer (some ⟨x6, 0, none⟩)), (10, .int .i64 (IntKind.i64.wrap (Int.tmod a2_0 4000)))]) (mem' := fun _ => [(1, r5 a0_o a0), (2, r5 a1_o a1), (4, .cells x6 56 [.bool true, .pointer (sgp h5_1 none l5_1), .int .i64 c4_2_1]), (5, bag (sgs 59 nX59 h5_1 none l5_1)), (6, Ent.all (nins nJ59 h5_1 l5_1))]) (RunsTo.mk [] [0, 1, 8, 9, 10] [1, 2, 4, 5, 6] (fun _ => []) (fun _ => by kernel_rfl) (fun _ => trivial)) ?_
      intro _
      refine GS.seq ?_
      refine GS.seq ?_
      refine bnd_elim hm (fun y24 e25 hm => ?_)
      refine GS.open_ ?_
      refine GR.run (i := 0) 3 (env' := fun _ => [(0, .slice a0_o a0.length a0_c), (1, .slice a1_o a1.length a1_c), (8, .int .u64 a2_1), (9, .pointer (some ⟨x6, 0, none⟩)), (10, .int .i64 (IntKind.i64.wrap (Int.tmod a2_0 4000))), (52, .pointer (some ⟨x6, 0, none⟩)), (53, .int .i64 (IntKind.i64.wrap (Int.tmod a2_0 4000))), (54, .slice a1_o a1.length a1_c)]) (mem' := fun _ => [(1, r5 a0_o a0), (2, r5 a1_o a1), (4, .cells x6 56 [.bool true, .pointer (sgp h5_1 none l5_1), .int .i64 c4_2_1]), (5, bag (sgs 59 nX59 h5_1 none l5_1)), (6, Ent.all (nins nJ59 h5_1 l5_1))]) (Nat.le_of_ble_eq_true (by kernel_rfl)) (RunsTo.mk [] [0, 1, 8, 9, 10, 52, 53, 54] [1, 2, 4, 5, 6] (fun _ => []) (fun _ => by kernel_rfl) (fun _ => trivial)) ?_
      intro _
      refine GR.callG (X := Hds) (i := 3) (g := 9) (args := #[.pointer (some ⟨x6, 0, none⟩), .int .i64 (IntKind.i64.wrap (Int.tmod a2_0 4000)), .slice a1_o a1.length a1_c]) (v := fun (x26 : Hds) => .int .i64 y24.1) (own := [bag (sgs 59 nX59 h5_1 none l5_1), .cells x6 56 [.bool true, .pointer (sgp h5_1 none l5_1), .int .i64 c4_2_1]]) (ro := [Ent.all (nins nJ59 h5_1 l5_1), r5 a1_o a1]) (es' := fun (x26 : Hds) => [bag (sgs 59 nX59 x26 none y24.2.1), Ent.all (nins nJ59 x26 y24.2.1), .cells x6 56 [.bool true, .pointer (sgp x26 none y24.2.1), .int .i64 y24.2.2]]) (mem' := fun (x26 : Hds) => [(1, r5 a0_o a0), (2, r5 a1_o a1), (4, .cells x6 56 [.bool true, .pointer (sgp x26 none y24.2.1), .int .i64 y24.2.2]), (6, Ent.all (nins nJ59 h5_1 l5_1)), (9, bag (sgs 59 nX59 x26 none y24.2.1)), (10, Ent.all (nins nJ59 x26 y24.2.1))]) (env' := fun (x26 : Hds) => [(0, .slice a0_o a0.length a0_c), (1, .slice a1_o a1.length a1_c), (8, .int .u64 a2_1), (9, .pointer (some ⟨x6, 0, none⟩)), (10, .int .i64 (IntKind.i64.wrap (Int.tmod a2_0 4000))), (55, .int .i64 y24.1)]) [5, 4] [9, 10, 4] [0, 1, 8, 9, 10, 55] [1, 2, 4, 6, 9, 10] true (by kernel_rfl) (by kernel_rfl) (by kernel_rfl) (by kernel_rfl) (by kernel_rfl) (fun _ => rfl) (fun h => by cases h) ⟨(.inl ⟨6, _, rfl, rfl, Cov.refl _, fun _ => rfl⟩), (.inl ⟨2, _, rfl, rfl, Cov.refl _, fun _ => rfl⟩), trivial⟩ (by rintro x26; kernel_rfl) (by rintro x26; kernel_rfl) ((by have h1 := w___extent_Map__Write F x6 h5_1 l5_1 c4_2_1 (IntKind.i64.wrap (Int.tmod a2_0 4000)) a1_o a1_c a1 e25; exact h1)) ?_
      rintro x26
      refine GR.run (i := 4) 1 (env' := fun _ => [(0, .slice a0_o a0.length a0_c), (1, .slice a1_o a1.length a1_c), (8, .int .u64 a2_1), (9, .pointer (some ⟨x6, 0, none⟩)), (10, .int .i64 (IntKind.i64.wrap (Int.tmod a2_0 4000))), (56, .bool (y24.1 != 0))]) (mem' := fun _ => [(1, r5 a0_o a0), (2, r5 a1_o a1), (4, .cells x6 56 [.bool true, .pointer (sgp x26 none y24.2.1), .int .i64 y24.2.2]), (9, bag (sgs 59 nX59 x26 none y24.2.1)), (10, Ent.all (nins nJ59 x26 y24.2.1))]) (Nat.le_of_ble_eq_true (by kernel_rfl)) (RunsTo.mk [] [0, 1, 8, 9, 10, 56] [1, 2, 4, 9, 10] (fun _ => []) (fun _ => by kernel_rfl) (fun _ => trivial)) ?_
      intro _
      refine GR.done (Nat.le_of_ble_eq_true (by kernel_rfl)) ?_
      refine GS.cond (t := y24.1 != 0) rfl rfl (fun h28 => ?_) (fun h28 => ?_)
      · replace hm := br_t h28 hm
        refine GS.seq ?_
        refine GS.region (env' := fun _ => [(6, .bool false)]) (mem' := fun _ => []) (RunsTo.mk [] [6] [] (fun _ => []) (fun _ => by kernel_rfl) (fun _ => trivial)) ?_
        intro _
        have hy := Option.some.inj hm
        subst hy
        refine GS.ret (fn := Try.f3) [0] [.bool false] [] rfl Try.func3 (by kernel_rfl) trivial (fun w' hs => ?_)
        exact ⟨(), rfl, hs.turnedG (ks := []) rfl rfl⟩
      · replace hm := br_f h28 hm
        refine GS.skip ?_
        refine GS.seq ?_
        refine bnd_elim hm (fun y31 e32 hm => ?_)
        refine GS.open_ ?_
        refine GR.run (i := 0) 4 (env' := fun _ => [(0, .slice a0_o a0.length a0_c), (1, .slice a1_o a1.length a1_c), (8, .int .u64 a2_1), (9, .pointer (some ⟨x6, 0, none⟩)), (10, .int .i64 (IntKind.i64.wrap (Int.tmod a2_0 4000))), (58, .pointer (some ⟨x6, 0, none⟩)), (59, .int .i64 (IntKind.i64.wrap (Int.tmod a2_0 4000))), (61, .int .i64 ((a1.length : Nat) : Int))]) (mem' := fun _ => [(1, r5 a0_o a0), (2, r5 a1_o a1), (4, .cells x6 56 [.bool true, .pointer (sgp x26 none y24.2.1), .int .i64 y24.2.2]), (9, bag (sgs 59 nX59 x26 none y24.2.1)), (10, Ent.all (nins nJ59 x26 y24.2.1))]) (Nat.le_of_ble_eq_true (by kernel_rfl)) (RunsTo.mk [] [0, 1, 8, 9, 10, 58, 59, 61] [1, 2, 4, 9, 10] (fun _ => []) (fun _ => by kernel_rfl) (fun _ => trivial)) ?_
        intro _
        refine GR.callG (X := Option Addr × Nat) (i := 4) (g := 11) (args := #[.pointer (some ⟨x6, 0, none⟩), .int .i64 (IntKind.i64.wrap (Int.tmod a2_0 4000)), .int .i64 ((a1.length : Nat) : Int)]) (v := fun ⟨x33, x34⟩ => .tuple #[.slice x33 y31.1.length x34, .int .i64 y31.2]) (own := []) (ro := [Ent.all (sgs 59 nX59 x26 none y24.2.1), Ent.all (nins nJ59 x26 y24.2.1), .rd (some ⟨x6, 0, none⟩) 3 ([[.bool true, .pointer (sgp x26 none y24.2.1), .int .i64 y24.2.2]] : List (List Value))]) (es' := fun ⟨x33, x34⟩ => [o5 x33 x34 y31.1]) (mem' := fun ⟨x33, x34⟩ => [(1, r5 a0_o a0), (2, r5 a1_o a1), (4, .cells x6 56 [.bool true, .pointer (sgp x26 none y24.2.1), .int .i64 y24.2.2]), (9, bag (sgs 59 nX59 x26 none y24.2.1)), (10, Ent.all (nins nJ59 x26 y24.2.1)), (11, o5 x33 x34 y31.1)]) (env' := fun ⟨x33, x34⟩ => [(0, .slice a0_o a0.length a0_c), (1, .slice a1_o a1.length a1_c), (8, .int .u64 a2_1), (9, .pointer (some ⟨x6, 0, none⟩)), (10, .int .i64 (IntKind.i64.wrap (Int.tmod a2_0 4000))), (62, .tuple #[.slice x33 y31.1.length x34, .int .i64 y31.2])]) [] [11] [0, 1, 8, 9, 10, 62] [1, 2, 4, 9, 10, 11] false (by kernel_rfl) (by kernel_rfl) (by kernel_rfl) (by kernel_rfl) (by kernel_rfl) (fun _ => rfl) (fun _ _ => rfl) ⟨(.inl ⟨9, _, rfl, rfl, Cov.chr, fun h => by cases h⟩), (.inl ⟨10, _, rfl, rfl, Cov.refl _, fun h => by cases h⟩), (.inl ⟨4, _, rfl, rfl, Cov.cells_rd, fun h => by cases h⟩), trivial⟩ (by rintro ⟨x33, x34⟩; kernel_rfl) (by rintro ⟨x33, x34⟩; kernel_rfl) ((by have h1 := w___extent_Map__Read F x6 x26 y24.2.1 y24.2.2 (IntKind.i64.wrap (Int.tmod a2_0 4000)) ((a1.length : Nat) : Int) e32; exact h1)) ?_
        rintro ⟨x33, x34⟩
        refine GR.run (i := 5) 5 (env' := fun _ => [(0, .slice a0_o a0.length a0_c), (1, .slice a1_o a1.length a1_c), (8, .int .u64 a2_1), (9, .pointer (some ⟨x6, 0, none⟩)), (10, .int .i64 (IntKind.i64.wrap (Int.tmod a2_0 4000))), (11, .slice x33 y31.1.length x34), (12, .int .i64 y31.2)]) (mem' := fun _ => [(1, r5 a0_o a0), (2, r5 a1_o a1), (4, .cells x6 56 [.bool true, .pointer (sgp x26 none y24.2.1), .int .i64 y24.2.2]), (9, bag (sgs 59 nX59 x26 none y24.2.1)), (10, Ent.all (nins nJ59 x26 y24.2.1)), (11, o5 x33 x34 y31.1)]) (Nat.le_of_ble_eq_true (by kernel_rfl)) (RunsTo.mk [] [0, 1, 8, 9, 10, 11, 12] [1, 2, 4, 9, 10, 11] (fun _ => []) (fun _ => by kernel_rfl) (fun _ => trivial)) ?_
        intro _
        refine GR.done (Nat.le_of_ble_eq_true (by kernel_rfl)) ?_
        refine GS.seq ?_
        refine bnd_elim hm (fun y37 e38 hm => ?_)
        refine GS.open_ ?_
        refine GR.run (i := 0) 2 (env' := fun _ => [(0, .slice a0_o a0.length a0_c), (1, .slice a1_o a1.length a1_c), (8, .int .u64 a2_1), (9, .pointer (some ⟨x6, 0, none⟩)), (10, .int .i64 (IntKind.i64.wrap (Int.tmod a2_0 4000))), (11, .slice x33 y31.1.length x34), (12, .int .i64 y31.2), (66, .pointer (some ⟨x6, 0, none⟩)), (67, .int .i64 (IntKind.i64.wrap (Int.tmod a2_0 4000)))]) (mem' := fun _ => [(1, r5 a0_o a0), (2, r5 a1_o a1), (4, .cells x6 56 [.bool true, .pointer (sgp x26 none y24.2.1), .int .i64 y24.2.2]), (9, bag (sgs 59 nX59 x26 none y24.2.1)), (10, Ent.all (nins nJ59 x26 y24.2.1)), (11, o5 x33 x34 y31.1)]) (Nat.le_of_ble_eq_true (by kernel_rfl)) (RunsTo.mk [] [0, 1, 8, 9, 10, 11, 12, 66, 67] [1, 2, 4, 9, 10, 11] (fun _ => []) (fun _ => by kernel_rfl) (fun _ => trivial)) ?_
        intro _
        refine GR.callG (X := Option Addr × Nat) (i := 2) (g := 11) (args := #[.pointer (some ⟨x6, 0, none⟩), .int .i64 0, .int .i64 (IntKind.i64.wrap (Int.tmod a2_0 4000))]) (v := fun ⟨x39, x40⟩ => .tuple #[.slice x39 y37.1.length x40, .int .i64 y37.2]) (own := []) (ro := [Ent.all (sgs 59 nX59 x26 none y24.2.1), Ent.all (nins nJ59 x26 y24.2.1), .rd (some ⟨x6, 0, none⟩) 3 ([[.bool true, .pointer (sgp x26 none y24.2.1), .int .i64 y24.2.2]] : List (List Value))]) (es' := fun ⟨x39, x40⟩ => [o5 x39 x40 y37.1]) (mem' := fun ⟨x39, x40⟩ => [(1, r5 a0_o a0), (2, r5 a1_o a1), (4, .cells x6 56 [.bool true, .pointer (sgp x26 none y24.2.1), .int .i64 y24.2.2]), (9, bag (sgs 59 nX59 x26 none y24.2.1)), (10, Ent.all (nins nJ59 x26 y24.2.1)), (11, o5 x33 x34 y31.1), (12, o5 x39 x40 y37.1)]) (env' := fun ⟨x39, x40⟩ => [(0, .slice a0_o a0.length a0_c), (1, .slice a1_o a1.length a1_c), (8, .int .u64 a2_1), (9, .pointer (some ⟨x6, 0, none⟩)), (10, .int .i64 (IntKind.i64.wrap (Int.tmod a2_0 4000))), (11, .slice x33 y31.1.length x34), (12, .int .i64 y31.2), (68, .tuple #[.slice x39 y37.1.length x40, .int .i64 y37.2])]) [] [12] [0, 1, 8, 9, 10, 11, 12, 68] [1, 2, 4, 9, 10, 11, 12] false (by kernel_rfl) (by kernel_rfl) (by kernel_rfl) (by kernel_rfl) (by kernel_rfl) (fun _ => rfl) (fun _ _ => rfl) ⟨(.inl ⟨9, _, rfl, rfl, Cov.chr, fun h => by cases h⟩), (.inl ⟨10, _, rfl, rfl, Cov.refl _, fun h => by cases h⟩), (.inl ⟨4, _, rfl, rfl, Cov.cells_rd, fun h => by cases h⟩), trivial⟩ (by rintro ⟨x39, x40⟩; kernel_rfl) (by rintro ⟨x39, x40⟩; kernel_rfl) ((by have h1 := w___extent_Map__Read F x6 x26 y24.2.1 y24.2.2 0 (IntKind.i64.wrap (Int.tmod a2_0 4000)) e38; exact h1)) ?_
        rintro ⟨x39, x40⟩
        refine GR.run (i := 3) 5 (env' := fun _ => [(0, .slice a0_o a0.length a0_c), (1, .slice a1_o a1.length a1_c), (8, .int .u64 a2_1), (9, .pointer (some ⟨x6, 0, none⟩)), (10, .int .i64 (IntKind.i64.wrap (Int.tmod a2_0 4000))), (11, .slice x33 y31.1.length x34), (12, .int .i64 y31.2), (13, .slice x39 y37.1.length x40), (14, .int .i64 y37.2)]) (mem' := fun _ => [(1, r5 a0_o a0), (2, r5 a1_o a1), (4, .cells x6 56 [.bool true, .pointer (sgp x26 none y24.2.1), .int .i64 y24.2.2]), (9, bag (sgs 59 nX59 x26 none y24.2.1)), (10, Ent.all (nins nJ59 x26 y24.2.1)), (11, o5 x33 x34 y31.1), (12, o5 x39 x40 y37.1)]) (Nat.le_of_ble_eq_true (by kernel_rfl)) (RunsTo.mk [] [0, 1, 8, 9, 10, 11, 12, 13, 14] [1, 2, 4, 9, 10, 11, 12] (fun _ => []) (fun _ => by kernel_rfl) (fun _ => trivial)) ?_
        intro _
        refine GR.done (Nat.le_of_ble_eq_true (by kernel_rfl)) ?_
        refine GS.seq ?_
        refine GS.seq ?_
        refine jn_elim hm (fun J47 hJ49 hm => ?_)
        refine GS.cut (ι := Bool) (I := fun (v82_2 : Bool) => J47 v82_2 = some y) (E := fun (v82_2 : Bool) => [(0, .slice a0_o a0.length a0_c), (8, .int .u64 a2_1), (9, .pointer (some ⟨x6, 0, none⟩)), (10, .int .i64 (IntKind.i64.wrap (Int.tmod a2_0 4000))), (13, .slice x39 y37.1.length x40), (82, .bool v82_2)]) (M := fun (v82_2 : Bool) => [(1, r5 a0_o a0), (4, .cells x6 56 [.bool true, .pointer (sgp x26 none y24.2.1), .int .i64 y24.2.2]), (9, bag (sgs 59 nX59 x26 none y24.2.1)), (10, Ent.all (nins nJ59 x26 y24.2.1)), (12, o5 x39 x40 y37.1)]) ?_ ?_
        rotate_left
        · intro H48
          refine br_elim hm (fun h43 hm => ?_) (fun h43 hm => ?_)
          · skip
            refine GS.region (env' := fun _ => [(0, .slice a0_o a0.length a0_c), (8, .int .u64 a2_1), (9, .pointer (some ⟨x6, 0, none⟩)), (10, .int .i64 (IntKind.i64.wrap (Int.tmod a2_0 4000))), (13, .slice x39 y37.1.length x40), (82, .bool true)]) (mem' := fun _ => [(1, r5 a0_o a0), (4, .cells x6 56 [.bool true, .pointer (sgp x26 none y24.2.1), .int .i64 y24.2.2]), (9, bag (sgs 59 nX59 x26 none y24.2.1)), (10, Ent.all (nins nJ59 x26 y24.2.1)), (12, o5 x39 x40 y37.1)]) (RunsTo.mk [(2, { sp := some (.bool true) })] [0, 8, 9, 10, 13, 82] [1, 4, 9, 10, 12] (fun _ => [((.bool (y31.2 != 0)) : Value) = .bool true]) (fun _ => by kernel_rfl) (fun _ => ⟨bool_eq h43, trivial⟩)) ?_
            intro _
            refine GS.rekey (env' := [(0, .slice a0_o a0.length a0_c), (8, .int .u64 a2_1), (9, .pointer (some ⟨x6, 0, none⟩)), (10, .int .i64 (IntKind.i64.wrap (Int.tmod a2_0 4000))), (13, .slice x39 y37.1.length x40), (82, .bool true)]) (mem' := [(1, r5 a0_o a0), (4, .cells x6 56 [.bool true, .pointer (sgp x26 none y24.2.1), .int .i64 y24.2.2]), (9, bag (sgs 59 nX59 x26 none y24.2.1)), (10, Ent.all (nins nJ59 x26 y24.2.1)), (12, o5 x39 x40 y37.1)]) [0, 8, 9, 10, 13, 82] [(1, 1), (4, 4), (9, 9), (10, 10), (12, 12)] (by kernel_rfl) (by kernel_rfl) rfl ?_
            exact H48 true hm
          · skip
            refine br_elim hm (fun h44 hm => ?_) (fun h44 hm => ?_)
            · skip
              refine GS.region (env' := fun _ => [(0, .slice a0_o a0.length a0_c), (8, .int .u64 a2_1), (9, .pointer (some ⟨x6, 0, none⟩)), (10, .int .i64 (IntKind.i64.wrap (Int.tmod a2_0 4000))), (13, .slice x39 y37.1.length x40), (82, .bool true)]) (mem' := fun _ => [(1, r5 a0_o a0), (4, .cells x6 56 [.bool true, .pointer (sgp x26 none y24.2.1), .int .i64 y24.2.2]), (9, bag (sgs 59 nX59 x26 none y24.2.1)), (10, Ent.all (nins nJ59 x26 y24.2.1)), (12, o5 x39 x40 y37.1)]) (RunsTo.mk [(2, { sp := some (.bool false) }), (6, { sp := some (.bool true) })] [0, 8, 9, 10, 13, 82] [1, 4, 9, 10, 12] (fun _ => [((.bool (y31.2 != 0)) : Value) = .bool false, ((.bool (y37.2 != 0)) : Value) = .bool true]) (fun _ => by kernel_rfl) (fun _ => ⟨bool_eq h43, bool_eq h44, trivial⟩)) ?_
              intro _
              refine GS.rekey (env' := [(0, .slice a0_o a0.length a0_c), (8, .int .u64 a2_1), (9, .pointer (some ⟨x6, 0, none⟩)), (10, .int .i64 (IntKind.i64.wrap (Int.tmod a2_0 4000))), (13, .slice x39 y37.1.length x40), (82, .bool true)]) (mem' := [(1, r5 a0_o a0), (4, .cells x6 56 [.bool true, .pointer (sgp x26 none y24.2.1), .int .i64 y24.2.2]), (9, bag (sgs 59 nX59 x26 none y24.2.1)), (10, Ent.all (nins nJ59 x26 y24.2.1)), (12, o5 x39 x40 y37.1)]) [0, 8, 9, 10, 13, 82] [(1, 1), (4, 4), (9, 9), (10, 10), (12, 12)] (by kernel_rfl) (by kernel_rfl) rfl ?_
              exact H48 true hm
            · skip
              refine bnd_elim hm (fun y45 e46 hm => ?_)
              refine GS.region (env' := fun _ => [(0, .slice a0_o a0.length a0_c), (8, .int .u64 a2_1), (9, .pointer (some ⟨x6, 0, none⟩)), (10, .int .i64 (IntKind.i64.wrap (Int.tmod a2_0 4000))), (13, .slice x39 y37.1.length x40), (82, .bool (!y45))]) (mem' := fun _ => [(1, r5 a0_o a0), (4, .cells x6 56 [.bool true, .pointer (sgp x26 none y24.2.1), .int .i64 y24.2.2]), (9, bag (sgs 59 nX59 x26 none y24.2.1)), (10, Ent.all (nins nJ59 x26 y24.2.1)), (12, o5 x39 x40 y37.1)]) (RunsTo.mk [(2, { sp := some (.bool false) }), (6, { sp := some (.bool false) }), (9, { act := .call [2, 11] (.bool y45) })] [0, 8, 9, 10, 13, 82] [1, 4, 9, 10, 12] (fun _ => [((.bool (y31.2 != 0)) : Value) = .bool false, ((.bool (y37.2 != 0)) : Value) = .bool false, CallOK Try.prog 12 #[.slice x33 y31.1.length x34, .slice a1_o a1.length a1_c] (.bool y45) [some (r5 a1_o a1), some (o5 x33 x34 y31.1)]]) (fun _ => by kernel_rfl) (fun _ => ⟨bool_eq h43, bool_eq h44, (by have h1 := w_tholeref01_Same F x33 x34 y31.1 a1_o a1_c a1 e46; exact h1.ok ⟨(.inl ⟨o5 x33 x34 y31.1, (.tail _ (.head _)), Cov.osl_rd⟩), (.inl ⟨r5 a1_o a1, .head _, Cov.refl _⟩), trivial⟩), trivial⟩)) ?_
              intro _
              refine GS.rekey (env' := [(0, .slice a0_o a0.length a0_c), (8, .int .u64 a2_1), (9, .pointer (some ⟨x6, 0, none⟩)), (10, .int .i64 (IntKind.i64.wrap (Int.tmod a2_0 4000))), (13, .slice x39 y37.1.length x40), (82, .bool (!y45))]) (mem' := [(1, r5 a0_o a0), (4, .cells x6 56 [.bool true, .pointer (sgp x26 none y24.2.1), .int .i64 y24.2.2]), (9, bag (sgs 59 nX59 x26 none y24.2.1)), (10, Ent.all (nins nJ59 x26 y24.2.1)), (12, o5 x39 x40 y37.1)]) [0, 8, 9, 10, 13, 82] [(1, 1), (4, 4), (9, 9), (10, 10), (12, 12)] (by kernel_rfl) (by kernel_rfl) rfl ?_
              exact H48 (!y45) hm
        · rintro v82_2 hm
          replace hm := (hJ49 _).symm.trans hm
          try dsimp only at hm
          refine GS.cond (t := v82_2) rfl rfl (fun h50 => ?_) (fun h50 => ?_)
          · replace hm := br_t h50 hm
            refine GS.seq ?_
            refine GS.region (env' := fun _ => [(6, .bool false)]) (mem' := fun _ => []) (RunsTo.mk [] [6] [] (fun _ => []) (fun _ => by kernel_rfl) (fun _ => trivial)) ?_
            intro _
            have hy := Option.some.inj hm
            subst hy
            refine GS.ret (fn := Try.f3) [0] [.bool false] [] rfl Try.func3 (by kernel_rfl) trivial (fun w' hs => ?_)
            exact ⟨(), rfl, hs.turnedG (ks := []) rfl rfl⟩
          · replace hm := br_f h50 hm
            refine GS.skip ?_
            refine GS.seq ?_
            refine GS.seq ?_
            refine GS.region (env' := fun _ => [(0, .slice a0_o a0.length a0_c), (8, .int .u64 a2_1), (9, .pointer (some ⟨x6, 0, none⟩)), (10, .int .i64 (IntKind.i64.wrap (Int.tmod a2_0 4000))), (83, .slice x39 y37.1.length x40), (84, .int .i64 ((y37.1.length : Nat) : Int)), (85, .int .i64 0)]) (mem' := fun _ => [(1, r5 a0_o a0), (4, .cells x6 56 [.bool true, .pointer (sgp x26 none y24.2.1), .int .i64 y24.2.2]), (9, bag (sgs 59 nX59 x26 none y24.2.1)), (10, Ent.all (nins nJ59 x26 y24.2.1)), (12, o5 x39 x40 y37.1)]) (RunsTo.mk [] [0, 8, 9, 10, 83, 84, 85] [1, 4, 9, 10, 12] (fun _ => []) (fun _ => by kernel_rfl) (fun _ => trivial)) ?_
            intro _
            refine GS.block ?_
            refine GS.loop ?_
            refine GS.know (p := y37.1.length ≤ x40) (fun w hw => by first | (have h := (hw.ok 12 _ rfl).1.1; rw [List.length_map] at h; exact h) | (have h := (hw.ok 12 _ rfl).1.1; rw [nrows_len] at h; exact h) | simpa using (hw.ok 12 _ rfl).1.1) (fun k53 => ?_)
            refine grd_elim hm (fun g82 hm => ?_)
            refine GS.rekey (env' := [(0, .slice a0_o a0.length a0_c), (8, .int .u64 a2_1), (9, .pointer (some ⟨x6, 0, none⟩)), (10, .int .i64 (IntKind.i64.wrap (Int.tmod a2_0 4000))), (83, .slice x39 y37.1.length x40), (84, .int .i64 ((y37.1.length : Nat) : Int)), (85, .int .i64 0)]) (mem' := [(1, r5 a0_o a0), (4, .cells x6 56 [.bool true, .pointer (sgp x26 none y24.2.1), .int .i64 y24.2.2]), (9, bag (sgs 59 nX59 x26 none y24.2.1)), (10, Ent.all (nins nJ59 x26 y24.2.1)), (12, o5 x39 x40 y37.1)]) [0, 8, 9, 10, 83, 84, 85] [(1, 1), (4, 4), (9, 9), (10, 10), (12, 12)] (by kernel_rfl) (by kernel_rfl) rfl ?_
            refine loopL_elim hm (fun st101 fn102 hst103 hfn104 hm => ?_)
            refine GS.loopInv (ι := List UInt8 × Nat) (I := fun ⟨rs99, v85_3⟩ => y37.1.drop v85_3 = rs99 ∧ loopL st101 fn102 rs99 v85_3 () = some y) (μ := fun ⟨rs99, v85_3⟩ => rs99.length) (E := fun ⟨rs99, v85_3⟩ => [(0, .slice a0_o a0.length a0_c), (8, .int .u64 a2_1), (9, .pointer (some ⟨x6, 0, none⟩)), (10, .int .i64 (IntKind.i64.wrap (Int.tmod a2_0 4000))), (83, .slice x39 y37.1.length x40), (84, .int .i64 ((y37.1.length : Nat) : Int)), (85, .int .i64 ((v85_3 : Nat) : Int))]) (M := fun ⟨rs99, v85_3⟩ => [(1, r5 a0_o a0), (4, .cells x6 56 [.bool true, .pointer (sgp x26 none y24.2.1), .int .i64 y24.2.2]), (9, bag (sgs 59 nX59 x26 none y24.2.1)), (10, Ent.all (nins nJ59 x26 y24.2.1)), (12, o5 x39 x40 y37.1)]) ?_ ⟨y37.1, 0⟩ ⟨List.drop_zero .., hm⟩
            rintro ⟨rs99, v85_3⟩ ⟨hd81, hm⟩ ih100
            cases rs99 with
            | nil =>
              replace hm := (hfn104 _ _).symm.trans hm
              try dsimp only at hm
              refine GS.seq ?_
              refine GS.region (env' := fun _ => [(0, .slice a0_o a0.length a0_c), (8, .int .u64 a2_1), (9, .pointer (some ⟨x6, 0, none⟩)), (10, .int .i64 (IntKind.i64.wrap (Int.tmod a2_0 4000))), (83, .slice x39 y37.1.length x40), (84, .int .i64 ((y37.1.length : Nat) : Int)), (85, .int .i64 ((v85_3 : Nat) : Int)), (86, .bool (decide (((v85_3 : Nat) : Int) < ((y37.1.length : Nat) : Int))))]) (mem' := fun _ => [(1, r5 a0_o a0), (4, .cells x6 56 [.bool true, .pointer (sgp x26 none y24.2.1), .int .i64 y24.2.2]), (9, bag (sgs 59 nX59 x26 none y24.2.1)), (10, Ent.all (nins nJ59 x26 y24.2.1)), (12, o5 x39 x40 y37.1)]) (RunsTo.mk [] [0, 8, 9, 10, 83, 84, 85, 86] [1, 4, 9, 10, 12] (fun _ => []) (fun _ => by kernel_rfl) (fun _ => trivial)) ?_
              intro _
              refine GS.seq ?_
              refine GS.cond (t := decide (((v85_3 : Nat) : Int) < ((y37.1.length : Nat) : Int))) rfl rfl (fun h97 => absb h97 (drop_dec0 hd81)) (fun _ => ?_)
              refine GS.exit rfl ?_
              refine GS.seq ?_
              refine GS.region (env' := fun _ => [(9, .pointer (some ⟨x6, 0, none⟩)), (10, .int .i64 (IntKind.i64.wrap (Int.tmod a2_0 4000))), (17, .int .i64 (IntKind.i64.wrap (Int.tmod a2_1 90)))]) (mem' := fun _ => [(4, .cells x6 56 [.bool true, .pointer (sgp x26 none y24.2.1), .int .i64 y24.2.2]), (9, bag (sgs 59 nX59 x26 none y24.2.1)), (10, Ent.all (nins nJ59 x26 y24.2.1))]) (RunsTo.mk [] [9, 10, 17] [4, 9, 10] (fun _ => []) (fun _ => by kernel_rfl) (fun _ => trivial)) ?_
              intro _
              refine GS.seq ?_
              refine GS.seq ?_
              refine bnd_elim hm (fun y107 e108 hm => ?_)
              refine GS.open_ ?_
              refine GR.run (i := 0) 3 (env' := fun _ => [(9, .pointer (some ⟨x6, 0, none⟩)), (10, .int .i64 (IntKind.i64.wrap (Int.tmod a2_0 4000))), (17, .int .i64 (IntKind.i64.wrap (Int.tmod a2_1 90))), (116, .pointer (some ⟨x6, 0, none⟩)), (117, .int .i64 (IntKind.i64.wrap (Int.tmod a2_0 4000))), (118, .int .i64 (IntKind.i64.wrap (Int.tmod a2_1 90)))]) (mem' := fun _ => [(4, .cells x6 56 [.bool true, .pointer (sgp x26 none y24.2.1), .int .i64 y24.2.2]), (9, bag (sgs 59 nX59 x26 none y24.2.1)), (10, Ent.all (nins nJ59 x26 y24.2.1))]) (Nat.le_of_ble_eq_true (by kernel_rfl)) (RunsTo.mk [] [9, 10, 17, 116, 117, 118] [4, 9, 10] (fun _ => []) (fun _ => by kernel_rfl) (fun _ => trivial)) ?_
              intro _
              refine GR.callG (X := Hds) (i := 3) (g := 13) (args := #[.pointer (some ⟨x6, 0, none⟩), .int .i64 (IntKind.i64.wrap (Int.tmod a2_0 4000)), .int .i64 (IntKind.i64.wrap (Int.tmod a2_1 90))]) (v := fun (x109 : Hds) => .int .i64 y107.1) (own := [bag (sgs 59 nX59 x26 none y24.2.1), .cells x6 56 [.bool true, .pointer (sgp x26 none y24.2.1), .int .i64 y24.2.2]]) (ro := [Ent.all (nins nJ59 x26 y24.2.1)]) (es' := fun (x109 : Hds) => [bag (sgs 59 nX59 x109 none y107.2.1), Ent.all (nins nJ59 x109 y107.2.1), .cells x6 56 [.bool true, .pointer (sgp x109 none y107.2.1), .int .i64 y107.2.2]]) (mem' := fun (x109 : Hds) => [(4, .cells x6 56 [.bool true, .pointer (sgp x109 none y107.2.1), .int .i64 y107.2.2]), (10, Ent.all (nins nJ59 x26 y24.2.1)), (13, bag (sgs 59 nX59 x109 none y107.2.1)), (14, Ent.all (nins nJ59 x109 y107.2.1))]) (env' := fun (x109 : Hds) => [(9, .pointer (some ⟨x6, 0, none⟩)), (10, .int .i64 (IntKind.i64.wrap (Int.tmod a2_0 4000))), (17, .int .i64 (IntKind.i64.wrap (Int.tmod a2_1 90))), (119, .int .i64 y107.1)]) [9, 4] [13, 14, 4] [9, 10, 17, 119] [4, 10, 13, 14] true (by kernel_rfl) (by kernel_rfl) (by kernel_rfl) (by kernel_rfl) (by kernel_rfl) (fun _ => rfl) (fun h => by cases h) ⟨(.inl ⟨10, _, rfl, rfl, Cov.refl _, fun _ => rfl⟩), trivial⟩ (by rintro x109; kernel_rfl) (by rintro x109; kernel_rfl) ((by have h1 := w___extent_Map__Zero_3 F x6 x26 y24.2.1 y24.2.2 (IntKind.i64.wrap (Int.tmod a2_0 4000)) (IntKind.i64.wrap (Int.tmod a2_1 90)) e108; exact h1)) ?_
              rintro x109
              refine GR.run (i := 4) 1 (env' := fun _ => [(9, .pointer (some ⟨x6, 0, none⟩)), (10, .int .i64 (IntKind.i64.wrap (Int.tmod a2_0 4000))), (17, .int .i64 (IntKind.i64.wrap (Int.tmod a2_1 90))), (120, .bool (y107.1 != 0))]) (mem' := fun _ => [(4, .cells x6 56 [.bool true, .pointer (sgp x109 none y107.2.1), .int .i64 y107.2.2]), (13, bag (sgs 59 nX59 x109 none y107.2.1)), (14, Ent.all (nins nJ59 x109 y107.2.1))]) (Nat.le_of_ble_eq_true (by kernel_rfl)) (RunsTo.mk [] [9, 10, 17, 120] [4, 13, 14] (fun _ => []) (fun _ => by kernel_rfl) (fun _ => trivial)) ?_
              intro _
              refine GR.done (Nat.le_of_ble_eq_true (by kernel_rfl)) ?_
              refine GS.cond (t := y107.1 != 0) rfl rfl (fun h111 => ?_) (fun h111 => ?_)
              · replace hm := br_t h111 hm
                refine GS.seq ?_
                refine GS.region (env' := fun _ => [(6, .bool false)]) (mem' := fun _ => []) (RunsTo.mk [] [6] [] (fun _ => []) (fun _ => by kernel_rfl) (fun _ => trivial)) ?_
                intro _
                have hy := Option.some.inj hm
                subst hy
                refine GS.ret (fn := Try.f3) [0] [.bool false] [] rfl Try.func3 (by kernel_rfl) trivial (fun w' hs => ?_)
                exact ⟨(), rfl, hs.turnedG (ks := []) rfl rfl⟩
              · replace hm := br_f h111 hm
                refine GS.skip ?_
                refine GS.seq ?_
                refine bnd_elim hm (fun y114 e115 hm => ?_)
                refine GS.open_ ?_
                refine GR.run (i := 0) 3 (env' := fun _ => [(17, .int .i64 (IntKind.i64.wrap (Int.tmod a2_1 90))), (122, .pointer (some ⟨x6, 0, none⟩)), (123, .int .i64 (IntKind.i64.wrap (Int.tmod a2_0 4000))), (124, .int .i64 (IntKind.i64.wrap (Int.tmod a2_1 90)))]) (mem' := fun _ => [(4, .cells x6 56 [.bool true, .pointer (sgp x109 none y107.2.1), .int .i64 y107.2.2]), (13, bag (sgs 59 nX59 x109 none y107.2.1)), (14, Ent.all (nins nJ59 x109 y107.2.1))]) (Nat.le_of_ble_eq_true (by kernel_rfl)) (RunsTo.mk [] [17, 122, 123, 124] [4, 13, 14] (fun _ => []) (fun _ => by kernel_rfl) (fun _ => trivial)) ?_
                intro _
                refine GR.callG (X := Option Addr × Nat) (i := 3) (g := 11) (args := #[.pointer (some ⟨x6, 0, none⟩), .int .i64 (IntKind.i64.wrap (Int.tmod a2_0 4000)), .int .i64 (IntKind.i64.wrap (Int.tmod a2_1 90))]) (v := fun ⟨x116, x117⟩ => .tuple #[.slice x116 y114.1.length x117, .int .i64 y114.2]) (own := []) (ro := [Ent.all (sgs 59 nX59 x109 none y107.2.1), Ent.all (nins nJ59 x109 y107.2.1), .rd (some ⟨x6, 0, none⟩) 3 ([[.bool true, .pointer (sgp x109 none y107.2.1), .int .i64 y107.2.2]] : List (List Value))]) (es' := fun ⟨x116, x117⟩ => [o5 x116 x117 y114.1]) (mem' := fun ⟨x116, x117⟩ => [(4, .cells x6 56 [.bool true, .pointer (sgp x109 none y107.2.1), .int .i64 y107.2.2]), (13, bag (sgs 59 nX59 x109 none y107.2.1)), (14, Ent.all (nins nJ59 x109 y107.2.1)), (15, o5 x116 x117 y114.1)]) (env' := fun ⟨x116, x117⟩ => [(17, .int .i64 (IntKind.i64.wrap (Int.tmod a2_1 90))), (125, .tuple #[.slice x116 y114.1.length x117, .int .i64 y114.2])]) [] [15] [17, 125] [4, 13, 14, 15] false (by kernel_rfl) (by kernel_rfl) (by kernel_rfl) (by kernel_rfl) (by kernel_rfl) (fun _ => rfl) (fun _ _ => rfl) ⟨(.inl ⟨13, _, rfl, rfl, Cov.chr, fun h => by cases h⟩), (.inl ⟨14, _, rfl, rfl, Cov.refl _, fun h => by cases h⟩), (.inl ⟨4, _, rfl, rfl, Cov.cells_rd, fun h => by cases h⟩), trivial⟩ (by rintro ⟨x116, x117⟩; kernel_rfl) (by rintro ⟨x116, x117⟩; kernel_rfl) ((by have h1 := w___extent_Map__Read F x6 x109 y107.2.1 y107.2.2 (IntKind.i64.wrap (Int.tmod a2_0 4000)) (IntKind.i64.wrap (Int.tmod a2_1 90)) e115; exact h1)) ?_
                rintro ⟨x116, x117⟩
                refine GR.run (i := 4) 5 (env' := fun _ => [(12, .int .i64 y114.2), (17, .int .i64 (IntKind.i64.wrap (Int.tmod a2_1 90))), (18, .slice x116 y114.1.length x117)]) (mem' := fun _ => [(15, o5 x116 x117 y114.1)]) (Nat.le_of_ble_eq_true (by kernel_rfl)) (RunsTo.mk [] [12, 17, 18] [15] (fun _ => []) (fun _ => by kernel_rfl) (fun _ => trivial)) ?_
                intro _
                refine GR.done (Nat.le_of_ble_eq_true (by kernel_rfl)) ?_
                refine GS.seq ?_
                refine GS.seq ?_
                refine GS.region (env' := fun _ => [(12, .int .i64 y114.2), (17, .int .i64 (IntKind.i64.wrap (Int.tmod a2_1 90))), (18, .slice x116 y114.1.length x117), (128, .slice x116 y114.1.length x117), (129, .int .i64 ((y114.1.length : Nat) : Int)), (130, .int .i64 0)]) (mem' := fun _ => [(15, o5 x116 x117 y114.1)]) (RunsTo.mk [] [12, 17, 18, 128, 129, 130] [15] (fun _ => []) (fun _ => by kernel_rfl) (fun _ => trivial)) ?_
                intro _
                refine GS.block ?_
                refine GS.loop ?_
                refine GS.know (p := y114.1.length ≤ x117) (fun w hw => by first | (have h := (hw.ok 15 _ rfl).1.1; rw [List.length_map] at h; exact h) | (have h := (hw.ok 15 _ rfl).1.1; rw [nrows_len] at h; exact h) | simpa using (hw.ok 15 _ rfl).1.1) (fun k120 => ?_)
                refine grd_elim hm (fun g139 hm => ?_)
                refine GS.rekey (env' := [(12, .int .i64 y114.2), (17, .int .i64 (IntKind.i64.wrap (Int.tmod a2_1 90))), (18, .slice x116 y114.1.length x117), (128, .slice x116 y114.1.length x117), (129, .int .i64 ((y114.1.length : Nat) : Int)), (130, .int .i64 0)]) (mem' := [(15, o5 x116 x117 y114.1)]) [12, 17, 18, 128, 129, 130] [(15, 15)] (by kernel_rfl) (by kernel_rfl) rfl ?_
                refine loopL_elim hm (fun st153 fn154 hst155 hfn156 hm => ?_)
                refine GS.loopInv (ι := List UInt8 × Nat) (I := fun ⟨rs151, v130_7⟩ => y114.1.drop v130_7 = rs151 ∧ loopL st153 fn154 rs151 v130_7 () = some y) (μ := fun ⟨rs151, v130_7⟩ => rs151.length) (E := fun ⟨rs151, v130_7⟩ => [(12, .int .i64 y114.2), (17, .int .i64 (IntKind.i64.wrap (Int.tmod a2_1 90))), (18, .slice x116 y114.1.length x117), (128, .slice x116 y114.1.length x117), (129, .int .i64 ((y114.1.length : Nat) : Int)), (130, .int .i64 ((v130_7 : Nat) : Int))]) (M := fun ⟨rs151, v130_7⟩ => [(15, o5 x116 x117 y114.1)]) ?_ ⟨y114.1, 0⟩ ⟨List.drop_zero .., hm⟩
                rintro ⟨rs151, v130_7⟩ ⟨hd138, hm⟩ ih152
                cases rs151 with
                | nil =>
                  replace hm := (hfn156 _ _).symm.trans hm
                  try dsimp only at hm
                  refine GS.seq ?_
                  refine GS.region (env' := fun _ => [(12, .int .i64 y114.2), (17, .int .i64 (IntKind.i64.wrap (Int.tmod a2_1 90))), (18, .slice x116 y114.1.length x117), (128, .slice x116 y114.1.length x117), (129, .int .i64 ((y114.1.length : Nat) : Int)), (130, .int .i64 ((v130_7 : Nat) : Int)), (131, .bool (decide (((v130_7 : Nat) : Int) < ((y114.1.length : Nat) : Int))))]) (mem' := fun _ => [(15, o5 x116 x117 y114.1)]) (RunsTo.mk [] [12, 17, 18, 128, 129, 130, 131] [15] (fun _ => []) (fun _ => by kernel_rfl) (fun _ => trivial)) ?_
                  intro _
                  refine GS.seq ?_
                  refine GS.cond (t := decide (((v130_7 : Nat) : Int) < ((y114.1.length : Nat) : Int))) rfl rfl (fun h149 => absb h149 (drop_dec0 hd138)) (fun _ => ?_)
                  refine GS.exit rfl ?_
                  refine GS.seq ?_
                  refine br_elim hm (fun h158 hm => ?_) (fun h158 hm => ?_)
                  · skip
                    refine br_elim hm (fun h159 hm => ?_) (fun h159 hm => ?_)
                    · skip
                      refine bnd_elim hm (fun y160 e161 hm => ?_)
                      refine GS.region (env' := fun _ => [(6, .bool true)]) (mem' := fun _ => []) (RunsTo.mk [(2, { sp := some (.bool true) }), (8, { sp := some (.bool true) }), (9, { act := .call [] (.bool true) })] [6] [] (fun _ => [((.bool (y114.2 == 0)) : Value) = .bool true, ((.bool (((y114.1.length : Nat) : Int) == (IntKind.i64.wrap (Int.tmod a2_1 90)))) : Value) = .bool true, CallOK Try.prog 10 #[] (.bool true) []]) (fun _ => by kernel_rfl) (fun _ => ⟨bool_eq h158, bool_eq h159, (by have h1 := w_tholelaw05_lives F  e161; exact h1.ok trivial), trivial⟩)) ?_
                      intro _
                      have hy := Option.some.inj hm
                      subst hy
                      refine GS.ret (fn := Try.f3) [0] [.bool true] [] rfl Try.func3 (by kernel_rfl) trivial (fun w' hs => ?_)
                      exact ⟨(), rfl, hs.turnedG (ks := []) rfl rfl⟩
                    · skip
                      refine GS.region (env' := fun _ => [(6, .bool false)]) (mem' := fun _ => []) (RunsTo.mk [(2, { sp := some (.bool true) }), (8, { sp := some (.bool false) })] [6] [] (fun _ => [((.bool (y114.2 == 0)) : Value) = .bool true, ((.bool (((y114.1.length : Nat) : Int) == (IntKind.i64.wrap (Int.tmod a2_1 90)))) : Value) = .bool false]) (fun _ => by kernel_rfl) (fun _ => ⟨bool_eq h158, bool_eq h159, trivial⟩)) ?_
                      intro _
                      have hy := Option.some.inj hm
                      subst hy
                      refine GS.ret (fn := Try.f3) [0] [.bool false] [] rfl Try.func3 (by kernel_rfl) trivial (fun w' hs => ?_)
                      exact ⟨(), rfl, hs.turnedG (ks := []) rfl rfl⟩
                  · skip
                    refine GS.region (env' := fun _ => [(6, .bool false)]) (mem' := fun _ => []) (RunsTo.mk [(2, { sp := some (.bool false) })] [6] [] (fun _ => [((.bool (y114.2 == 0)) : Value) = .bool false]) (fun _ => by kernel_rfl) (fun _ => ⟨bool_eq h158, trivial⟩)) ?_
                    intro _
                    have hy := Option.some.inj hm
                    subst hy
                    refine GS.ret (fn := Try.f3) [0] [.bool false] [] rfl Try.func3 (by kernel_rfl) trivial (fun w' hs => ?_)
                    exact ⟨(), rfl, hs.turnedG (ks := []) rfl rfl⟩
                | cons x140 rs151 =>
                  replace hm := (hst155 _ _ _ _).symm.trans hm
                  try dsimp only at hm
                  refine GS.seq ?_
                  refine GS.region (env' := fun _ => [(12, .int .i64 y114.2), (17, .int .i64 (IntKind.i64.wrap (Int.tmod a2_1 90))), (18, .slice x116 y114.1.length x117), (128, .slice x116 y114.1.length x117), (129, .int .i64 ((y114.1.length : Nat) : Int)), (130, .int .i64 ((v130_7 : Nat) : Int)), (131, .bool (decide (((v130_7 : Nat) : Int) < ((y114.1.length : Nat) : Int))))]) (mem' := fun _ => [(15, o5 x116 x117 y114.1)]) (RunsTo.mk [] [12, 17, 18, 128, 129, 130, 131] [15] (fun _ => []) (fun _ => by kernel_rfl) (fun _ => trivial)) ?_
                  intro _
                  refine GS.seq ?_
                  refine GS.cond (t := decide (((v130_7 : Nat) : Int) < ((y114.1.length : Nat) : Int))) rfl rfl (fun _ => ?_) (fun h142 => absb (drop_dec hd138) h142)
                  refine GS.skip ?_
                  refine GS.seq ?_
                  refine GS.block ?_
                  refine GS.seq ?_
                  refine GS.region (env' := fun _ => [(12, .int .i64 y114.2), (17, .int .i64 (IntKind.i64.wrap (Int.tmod a2_1 90))), (18, .slice x116 y114.1.length x117), (20, .int .u8 ((x140.toNat : Nat) : Int)), (128, .slice x116 y114.1.length x117), (129, .int .i64 ((y114.1.length : Nat) : Int)), (130, .int .i64 ((v130_7 : Nat) : Int))]) (mem' := fun _ => [(15, o5 x116 x117 y114.1)]) (RunsTo.mk [(0, { act := .idx 15 v130_7 }), (1, { act := .load 15 v130_7 0 [.int .u8 ((x140.toNat : Nat) : Int)] })] [12, 17, 18, 20, 128, 129, 130] [15] (fun _ => [x116 = x116, y114.1.length = (List.map rB y114.1).length, (((v130_7 : Nat) : Int) : Int) = ((v130_7 : Nat) : Int), v130_7 < y114.1.length, blk x116 = blk x116, offs x116 + v130_7 * 1 = offs x116 + (v130_7 * 1 + 0), (List.map rB y114.1)[v130_7]? = some [.int .u8 ((x140.toNat : Nat) : Int)]]) (fun _ => by kernel_rfl) (fun _ => ⟨rfl, mlen rB y114.1, rfl, (drop_lt hd138), rfl, rfl, map_drop rB hd138, trivial⟩)) ?_
                  intro _
                  refine GS.seq ?_
                  refine GS.region (env' := fun _ => [(12, .int .i64 y114.2), (17, .int .i64 (IntKind.i64.wrap (Int.tmod a2_1 90))), (18, .slice x116 y114.1.length x117), (128, .slice x116 y114.1.length x117), (129, .int .i64 ((y114.1.length : Nat) : Int)), (130, .int .i64 ((v130_7 : Nat) : Int)), (135, .bool (((x140.toNat : Nat) : Int) != 0))]) (mem' := fun _ => [(15, o5 x116 x117 y114.1)]) (RunsTo.mk [] [12, 17, 18, 128, 129, 130, 135] [15] (fun _ => []) (fun _ => by kernel_rfl) (fun _ => trivial)) ?_
                  intro _
                  refine GS.cond (t := ((x140.toNat : Nat) : Int) != 0) rfl rfl (fun h145 => ?_) (fun h145 => ?_)
                  · replace hm := br_t h145 hm
                    refine GS.seq ?_
                    refine GS.region (env' := fun _ => [(6, .bool false)]) (mem' := fun _ => []) (RunsTo.mk [] [6] [] (fun _ => []) (fun _ => by kernel_rfl) (fun _ => trivial)) ?_
                    intro _
                    have hy := Option.some.inj hm
                    subst hy
                    refine GS.ret (fn := Try.f3) [0] [.bool false] [] rfl Try.func3 (by kernel_rfl) trivial (fun w' hs => ?_)
                    exact ⟨(), rfl, hs.turnedG (ks := []) rfl rfl⟩
                  · replace hm := br_f h145 hm
                    refine GS.skip ?_
                    refine GS.inBlock ?_
                    refine GS.region (env' := fun _ => [(12, .int .i64 y114.2), (17, .int .i64 (IntKind.i64.wrap (Int.tmod a2_1 90))), (18, .slice x116 y114.1.length x117), (128, .slice x116 y114.1.length x117), (129, .int .i64 ((y114.1.length : Nat) : Int)), (130, .int .i64 ((v130_7 + 1 : Nat) : Int))]) (mem' := fun _ => [(15, o5 x116 x117 y114.1)]) (RunsTo.mk [(0, { sp := some (.int .i64 ((v130_7 + 1 : Nat) : Int)) })] [12, 17, 18, 128, 129, 130] [15] (fun _ => [((.int .i64 (IntKind.i64.wrap (((v130_7 : Nat) : Int) + 1))) : Value) = .int .i64 ((v130_7 + 1 : Nat) : Int)]) (fun _ => by kernel_rfl) (fun _ => ⟨natw (drop_lt hd138) g139, trivial⟩)) ?_
                    intro _
                    refine GS.inLoop ?_
                    refine GS.rekey (env' := [(12, .int .i64 y114.2), (17, .int .i64 (IntKind.i64.wrap (Int.tmod a2_1 90))), (18, .slice x116 y114.1.length x117), (128, .slice x116 y114.1.length x117), (129, .int .i64 ((y114.1.length : Nat) : Int)), (130, .int .i64 ((v130_7 + 1 : Nat) : Int))]) (mem' := [(15, o5 x116 x117 y114.1)]) [12, 17, 18, 128, 129, 130] [(15, 15)] (by kernel_rfl) (by kernel_rfl) rfl ?_
                    exact ih152 ⟨rs151, v130_7 + 1⟩ ⟨drop_next hd138, hm⟩ (Nat.lt_succ_self _)
            | cons x83 rs99 =>
              replace hm := (hst103 _ _ _ _).symm.trans hm
              try dsimp only at hm
              refine GS.seq ?_
              refine GS.region (env' := fun _ => [(0, .slice a0_o a0.length a0_c), (8, .int .u64 a2_1), (9, .pointer (some ⟨x6, 0, none⟩)), (10, .int .i64 (IntKind.i64.wrap (Int.tmod a2_0 4000))), (83, .slice x39 y37.1.length x40), (84, .int .i64 ((y37.1.length : Nat) : Int)), (85, .int .i64 ((v85_3 : Nat) : Int)), (86, .bool (decide (((v85_3 : Nat) : Int) < ((y37.1.length : Nat) : Int))))]) (mem' := fun _ => [(1, r5 a0_o a0), (4, .cells x6 56 [.bool true, .pointer (sgp x26 none y24.2.1), .int .i64 y24.2.2]), (9, bag (sgs 59 nX59 x26 none y24.2.1)), (10, Ent.all (nins nJ59 x26 y24.2.1)), (12, o5 x39 x40 y37.1)]) (RunsTo.mk [] [0, 8, 9, 10, 83, 84, 85, 86] [1, 4, 9, 10, 12] (fun _ => []) (fun _ => by kernel_rfl) (fun _ => trivial)) ?_
              intro _
              refine GS.seq ?_
              refine GS.cond (t := decide (((v85_3 : Nat) : Int) < ((y37.1.length : Nat) : Int))) rfl rfl (fun _ => ?_) (fun h85 => absb (drop_dec hd81) h85)
              refine GS.skip ?_
              refine GS.seq ?_
              refine GS.block ?_
              refine GS.seq ?_
              refine GS.region (env' := fun _ => [(0, .slice a0_o a0.length a0_c), (8, .int .u64 a2_1), (9, .pointer (some ⟨x6, 0, none⟩)), (10, .int .i64 (IntKind.i64.wrap (Int.tmod a2_0 4000))), (15, .int .i64 ((v85_3 : Nat) : Int)), (16, .int .u8 ((x83.toNat : Nat) : Int)), (83, .slice x39 y37.1.length x40), (84, .int .i64 ((y37.1.length : Nat) : Int)), (85, .int .i64 ((v85_3 : Nat) : Int))]) (mem' := fun _ => [(1, r5 a0_o a0), (4, .cells x6 56 [.bool true, .pointer (sgp x26 none y24.2.1), .int .i64 y24.2.2]), (9, bag (sgs 59 nX59 x26 none y24.2.1)), (10, Ent.all (nins nJ59 x26 y24.2.1)), (12, o5 x39 x40 y37.1)]) (RunsTo.mk [(1, { act := .idx 12 v85_3 }), (2, { act := .load 12 v85_3 0 [.int .u8 ((x83.toNat : Nat) : Int)] })] [0, 8, 9, 10, 15, 16, 83, 84, 85] [1, 4, 9, 10, 12] (fun _ => [x39 = x39, y37.1.length = (List.map rB y37.1).length, (((v85_3 : Nat) : Int) : Int) = ((v85_3 : Nat) : Int), v85_3 < y37.1.length, blk x39 = blk x39, offs x39 + v85_3 * 1 = offs x39 + (v85_3 * 1 + 0), (List.map rB y37.1)[v85_3]? = some [.int .u8 ((x83.toNat : Nat) : Int)]]) (fun _ => by kernel_rfl) (fun _ => ⟨rfl, mlen rB y37.1, rfl, (drop_lt hd81), rfl, rfl, map_drop rB hd81, trivial⟩)) ?_
              intro _
              refine GS.seq ?_
              refine jn_elim hm (fun J90 hJ92 hm => ?_)
              refine GS.cut (ι := Bool) (I := fun (v111_6 : Bool) => J90 v111_6 = some y) (E := fun (v111_6 : Bool) => [(0, .slice a0_o a0.length a0_c), (8, .int .u64 a2_1), (9, .pointer (some ⟨x6, 0, none⟩)), (10, .int .i64 (IntKind.i64.wrap (Int.tmod a2_0 4000))), (83, .slice x39 y37.1.length x40), (84, .int .i64 ((y37.1.length : Nat) : Int)), (85, .int .i64 ((v85_3 : Nat) : Int)), (111, .bool v111_6)]) (M := fun (v111_6 : Bool) => [(1, r5 a0_o a0), (4, .cells x6 56 [.bool true, .pointer (sgp x26 none y24.2.1), .int .i64 y24.2.2]), (9, bag (sgs 59 nX59 x26 none y24.2.1)), (10, Ent.all (nins nJ59 x26 y24.2.1)), (12, o5 x39 x40 y37.1)]) ?_ ?_
              rotate_left
              · intro H91
                refine br_elim hm (fun h88 hm => ?_) (fun h88 hm => ?_)
                · skip
                  refine grd_elim hm (fun g89 hm => ?_)
                  refine br_elim hm (fun h90 hm => ?_) (fun h90 hm => ?_)
                  · skip
                    refine GS.region (env' := fun _ => [(0, .slice a0_o a0.length a0_c), (8, .int .u64 a2_1), (9, .pointer (some ⟨x6, 0, none⟩)), (10, .int .i64 (IntKind.i64.wrap (Int.tmod a2_0 4000))), (83, .slice x39 y37.1.length x40), (84, .int .i64 ((y37.1.length : Nat) : Int)), (85, .int .i64 ((v85_3 : Nat) : Int)), (111, .bool true)]) (mem' := fun _ => [(1, r5 a0_o a0), (4, .cells x6 56 [.bool true, .pointer (sgp x26 none y24.2.1), .int .i64 y24.2.2]), (9, bag (sgs 59 nX59 x26 none y24.2.1)), (10, Ent.all (nins nJ59 x26 y24.2.1)), (12, o5 x39 x40 y37.1)]) (RunsTo.mk [(4, { sp := some (.bool true) }), (8, { act := .idx 1 v85_3 }), (9, { act := .load 1 v85_3 0 [.int .u8 (((a0.getD v85_3 0).toNat : Nat) : Int)] }), (12, { sp := some (.bool true) })] [0, 8, 9, 10, 83, 84, 85, 111] [1, 4, 9, 10, 12] (fun _ => [((.bool (decide (((v85_3 : Nat) : Int) < ((a0.length : Nat) : Int)))) : Value) = .bool true, a0_o = a0_o, a0.length = (List.map rB a0).length, (((v85_3 : Nat) : Int) : Int) = ((v85_3 : Nat) : Int), v85_3 < a0.length, blk a0_o = blk a0_o, offs a0_o + v85_3 * 1 = offs a0_o + (v85_3 * 1 + 0), (List.map rB a0)[v85_3]? = some [.int .u8 (((a0.getD v85_3 0).toNat : Nat) : Int)], ((.bool (((x83.toNat : Nat) : Int) != (((a0.getD v85_3 0).toNat : Nat) : Int))) : Value) = .bool true]) (fun _ => by kernel_rfl) (fun _ => ⟨bool_eq h88, rfl, mlen rB a0, rfl, g89, rfl, rfl, map_at rB 0 g89, bool_eq h90, trivial⟩)) ?_
                    intro _
                    refine GS.rekey (env' := [(0, .slice a0_o a0.length a0_c), (8, .int .u64 a2_1), (9, .pointer (some ⟨x6, 0, none⟩)), (10, .int .i64 (IntKind.i64.wrap (Int.tmod a2_0 4000))), (83, .slice x39 y37.1.length x40), (84, .int .i64 ((y37.1.length : Nat) : Int)), (85, .int .i64 ((v85_3 : Nat) : Int)), (111, .bool true)]) (mem' := [(1, r5 a0_o a0), (4, .cells x6 56 [.bool true, .pointer (sgp x26 none y24.2.1), .int .i64 y24.2.2]), (9, bag (sgs 59 nX59 x26 none y24.2.1)), (10, Ent.all (nins nJ59 x26 y24.2.1)), (12, o5 x39 x40 y37.1)]) [0, 8, 9, 10, 83, 84, 85, 111] [(1, 1), (4, 4), (9, 9), (10, 10), (12, 12)] (by kernel_rfl) (by kernel_rfl) rfl ?_
                    exact H91 true hm
                  · skip
                    refine br_elim hm (fun h91 hm => ?_) (fun h91 hm => ?_)
                    · skip
                      refine GS.region (env' := fun _ => [(0, .slice a0_o a0.length a0_c), (8, .int .u64 a2_1), (9, .pointer (some ⟨x6, 0, none⟩)), (10, .int .i64 (IntKind.i64.wrap (Int.tmod a2_0 4000))), (83, .slice x39 y37.1.length x40), (84, .int .i64 ((y37.1.length : Nat) : Int)), (85, .int .i64 ((v85_3 : Nat) : Int)), (111, .bool (((x83.toNat : Nat) : Int) != 0))]) (mem' := fun _ => [(1, r5 a0_o a0), (4, .cells x6 56 [.bool true, .pointer (sgp x26 none y24.2.1), .int .i64 y24.2.2]), (9, bag (sgs 59 nX59 x26 none y24.2.1)), (10, Ent.all (nins nJ59 x26 y24.2.1)), (12, o5 x39 x40 y37.1)]) (RunsTo.mk [(4, { sp := some (.bool true) }), (8, { act := .idx 1 v85_3 }), (9, { act := .load 1 v85_3 0 [.int .u8 (((a0.getD v85_3 0).toNat : Nat) : Int)] }), (12, { sp := some (.bool false) }), (17, { sp := some (.bool true) })] [0, 8, 9, 10, 83, 84, 85, 111] [1, 4, 9, 10, 12] (fun _ => [((.bool (decide (((v85_3 : Nat) : Int) < ((a0.length : Nat) : Int)))) : Value) = .bool true, a0_o = a0_o, a0.length = (List.map rB a0).length, (((v85_3 : Nat) : Int) : Int) = ((v85_3 : Nat) : Int), v85_3 < a0.length, blk a0_o = blk a0_o, offs a0_o + v85_3 * 1 = offs a0_o + (v85_3 * 1 + 0), (List.map rB a0)[v85_3]? = some [.int .u8 (((a0.getD v85_3 0).toNat : Nat) : Int)], ((.bool (((x83.toNat : Nat) : Int) != (((a0.getD v85_3 0).toNat : Nat) : Int))) : Value) = .bool false, ((.bool (decide (((v85_3 : Nat) : Int) ≥ ((a0.length : Nat) : Int)))) : Value) = .bool true]) (fun _ => by kernel_rfl) (fun _ => ⟨bool_eq h88, rfl, mlen rB a0, rfl, g89, rfl, rfl, map_at rB 0 g89, bool_eq h90, bool_eq h91, trivial⟩)) ?_
                      intro _
                      refine GS.rekey (env' := [(0, .slice a0_o a0.length a0_c), (8, .int .u64 a2_1), (9, .pointer (some ⟨x6, 0, none⟩)), (10, .int .i64 (IntKind.i64.wrap (Int.tmod a2_0 4000))), (83, .slice x39 y37.1.length x40), (84, .int .i64 ((y37.1.length : Nat) : Int)), (85, .int .i64 ((v85_3 : Nat) : Int)), (111, .bool (((x83.toNat : Nat) : Int) != 0))]) (mem' := [(1, r5 a0_o a0), (4, .cells x6 56 [.bool true, .pointer (sgp x26 none y24.2.1), .int .i64 y24.2.2]), (9, bag (sgs 59 nX59 x26 none y24.2.1)), (10, Ent.all (nins nJ59 x26 y24.2.1)), (12, o5 x39 x40 y37.1)]) [0, 8, 9, 10, 83, 84, 85, 111] [(1, 1), (4, 4), (9, 9), (10, 10), (12, 12)] (by kernel_rfl) (by kernel_rfl) rfl ?_
                      exact H91 (((x83.toNat : Nat) : Int) != 0) hm
                    · skip
                      refine GS.region (env' := fun _ => [(0, .slice a0_o a0.length a0_c), (8, .int .u64 a2_1), (9, .pointer (some ⟨x6, 0, none⟩)), (10, .int .i64 (IntKind.i64.wrap (Int.tmod a2_0 4000))), (83, .slice x39 y37.1.length x40), (84, .int .i64 ((y37.1.length : Nat) : Int)), (85, .int .i64 ((v85_3 : Nat) : Int)), (111, .bool false)]) (mem' := fun _ => [(1, r5 a0_o a0), (4, .cells x6 56 [.bool true, .pointer (sgp x26 none y24.2.1), .int .i64 y24.2.2]), (9, bag (sgs 59 nX59 x26 none y24.2.1)), (10, Ent.all (nins nJ59 x26 y24.2.1)), (12, o5 x39 x40 y37.1)]) (RunsTo.mk [(4, { sp := some (.bool true) }), (8, { act := .idx 1 v85_3 }), (9, { act := .load 1 v85_3 0 [.int .u8 (((a0.getD v85_3 0).toNat : Nat) : Int)] }), (12, { sp := some (.bool false) }), (17, { sp := some (.bool false) })] [0, 8, 9, 10, 83, 84, 85, 111] [1, 4, 9, 10, 12] (fun _ => [((.bool (decide (((v85_3 : Nat) : Int) < ((a0.length : Nat) : Int)))) : Value) = .bool true, a0_o = a0_o, a0.length = (List.map rB a0).length, (((v85_3 : Nat) : Int) : Int) = ((v85_3 : Nat) : Int), v85_3 < a0.length, blk a0_o = blk a0_o, offs a0_o + v85_3 * 1 = offs a0_o + (v85_3 * 1 + 0), (List.map rB a0)[v85_3]? = some [.int .u8 (((a0.getD v85_3 0).toNat : Nat) : Int)], ((.bool (((x83.toNat : Nat) : Int) != (((a0.getD v85_3 0).toNat : Nat) : Int))) : Value) = .bool false, ((.bool (decide (((v85_3 : Nat) : Int) ≥ ((a0.length : Nat) : Int)))) : Value) = .bool false]) (fun _ => by kernel_rfl) (fun _ => ⟨bool_eq h88, rfl, mlen rB a0, rfl, g89, rfl, rfl, map_at rB 0 g89, bool_eq h90, bool_eq h91, trivial⟩)) ?_
                      intro _
                      refine GS.rekey (env' := [(0, .slice a0_o a0.length a0_c), (8, .int .u64 a2_1), (9, .pointer (some ⟨x6, 0, none⟩)), (10, .int .i64 (IntKind.i64.wrap (Int.tmod a2_0 4000))), (83, .slice x39 y37.1.length x40), (84, .int .i64 ((y37.1.length : Nat) : Int)), (85, .int .i64 ((v85_3 : Nat) : Int)), (111, .bool false)]) (mem' := [(1, r5 a0_o a0), (4, .cells x6 56 [.bool true, .pointer (sgp x26 none y24.2.1), .int .i64 y24.2.2]), (9, bag (sgs 59 nX59 x26 none y24.2.1)), (10, Ent.all (nins nJ59 x26 y24.2.1)), (12, o5 x39 x40 y37.1)]) [0, 8, 9, 10, 83, 84, 85, 111] [(1, 1), (4, 4), (9, 9), (10, 10), (12, 12)] (by kernel_rfl) (by kernel_rfl) rfl ?_
                      exact H91 false hm
                · skip
                  refine br_elim hm (fun h89 hm => ?_) (fun h89 hm => ?_)
                  · skip
                    refine GS.region (env' := fun _ => [(0, .slice a0_o a0.length a0_c), (8, .int .u64 a2_1), (9, .pointer (some ⟨x6, 0, none⟩)), (10, .int .i64 (IntKind.i64.wrap (Int.tmod a2_0 4000))), (83, .slice x39 y37.1.length x40), (84, .int .i64 ((y37.1.length : Nat) : Int)), (85, .int .i64 ((v85_3 : Nat) : Int)), (111, .bool (((x83.toNat : Nat) : Int) != 0))]) (mem' := fun _ => [(1, r5 a0_o a0), (4, .cells x6 56 [.bool true, .pointer (sgp x26 none y24.2.1), .int .i64 y24.2.2]), (9, bag (sgs 59 nX59 x26 none y24.2.1)), (10, Ent.all (nins nJ59 x26 y24.2.1)), (12, o5 x39 x40 y37.1)]) (RunsTo.mk [(4, { sp := some (.bool false) }), (17, { sp := some (.bool true) })] [0, 8, 9, 10, 83, 84, 85, 111] [1, 4, 9, 10, 12] (fun _ => [((.bool (decide (((v85_3 : Nat) : Int) < ((a0.length : Nat) : Int)))) : Value) = .bool false, ((.bool (decide (((v85_3 : Nat) : Int) ≥ ((a0.length : Nat) : Int)))) : Value) = .bool true]) (fun _ => by kernel_rfl) (fun _ => ⟨bool_eq h88, bool_eq h89, trivial⟩)) ?_
                    intro _
                    refine GS.rekey (env' := [(0, .slice a0_o a0.length a0_c), (8, .int .u64 a2_1), (9, .pointer (some ⟨x6, 0, none⟩)), (10, .int .i64 (IntKind.i64.wrap (Int.tmod a2_0 4000))), (83, .slice x39 y37.1.length x40), (84, .int .i64 ((y37.1.length : Nat) : Int)), (85, .int .i64 ((v85_3 : Nat) : Int)), (111, .bool (((x83.toNat : Nat) : Int) != 0))]) (mem' := [(1, r5 a0_o a0), (4, .cells x6 56 [.bool true, .pointer (sgp x26 none y24.2.1), .int .i64 y24.2.2]), (9, bag (sgs 59 nX59 x26 none y24.2.1)), (10, Ent.all (nins nJ59 x26 y24.2.1)), (12, o5 x39 x40 y37.1)]) [0, 8, 9, 10, 83, 84, 85, 111] [(1, 1), (4, 4), (9, 9), (10, 10), (12, 12)] (by kernel_rfl) (by kernel_rfl) rfl ?_
                    exact H91 (((x83.toNat : Nat) : Int) != 0) hm
                  · skip
                    refine GS.region (env' := fun _ => [(0, .slice a0_o a0.length a0_c), (8, .int .u64 a2_1), (9, .pointer (some ⟨x6, 0, none⟩)), (10, .int .i64 (IntKind.i64.wrap (Int.tmod a2_0 4000))), (83, .slice x39 y37.1.length x40), (84, .int .i64 ((y37.1.length : Nat) : Int)), (85, .int .i64 ((v85_3 : Nat) : Int)), (111, .bool false)]) (mem' := fun _ => [(1, r5 a0_o a0), (4, .cells x6 56 [.bool true, .pointer (sgp x26 none y24.2.1), .int .i64 y24.2.2]), (9, bag (sgs 59 nX59 x26 none y24.2.1)), (10, Ent.all (nins nJ59 x26 y24.2.1)), (12, o5 x39 x40 y37.1)]) (RunsTo.mk [(4, { sp := some (.bool false) }), (17, { sp := some (.bool false) })] [0, 8, 9, 10, 83, 84, 85, 111] [1, 4, 9, 10, 12] (fun _ => [((.bool (decide (((v85_3 : Nat) : Int) < ((a0.length : Nat) : Int)))) : Value) = .bool false, ((.bool (decide (((v85_3 : Nat) : Int) ≥ ((a0.length : Nat) : Int)))) : Value) = .bool false]) (fun _ => by kernel_rfl) (fun _ => ⟨bool_eq h88, bool_eq h89, trivial⟩)) ?_
                    intro _
                    refine GS.rekey (env' := [(0, .slice a0_o a0.length a0_c), (8, .int .u64 a2_1), (9, .pointer (some ⟨x6, 0, none⟩)), (10, .int .i64 (IntKind.i64.wrap (Int.tmod a2_0 4000))), (83, .slice x39 y37.1.length x40), (84, .int .i64 ((y37.1.length : Nat) : Int)), (85, .int .i64 ((v85_3 : Nat) : Int)), (111, .bool false)]) (mem' := [(1, r5 a0_o a0), (4, .cells x6 56 [.bool true, .pointer (sgp x26 none y24.2.1), .int .i64 y24.2.2]), (9, bag (sgs 59 nX59 x26 none y24.2.1)), (10, Ent.all (nins nJ59 x26 y24.2.1)), (12, o5 x39 x40 y37.1)]) [0, 8, 9, 10, 83, 84, 85, 111] [(1, 1), (4, 4), (9, 9), (10, 10), (12, 12)] (by kernel_rfl) (by kernel_rfl) rfl ?_
                    exact H91 false hm
              · rintro v111_6 hm
                replace hm := (hJ92 _).symm.trans hm
                try dsimp only at hm
                refine GS.cond (t := v111_6) rfl rfl (fun h93 => ?_) (fun h93 => ?_)
                · replace hm := br_t h93 hm
                  refine GS.seq ?_
                  refine GS.region (env' := fun _ => [(6, .bool false)]) (mem' := fun _ => []) (RunsTo.mk [] [6] [] (fun _ => []) (fun _ => by kernel_rfl) (fun _ => trivial)) ?_
                  intro _
                  have hy := Option.some.inj hm
                  subst hy
                  refine GS.ret (fn := Try.f3) [0] [.bool false] [] rfl Try.func3 (by kernel_rfl) trivial (fun w' hs => ?_)
                  exact ⟨(), rfl, hs.turnedG (ks := []) rfl rfl⟩
                · replace hm := br_f h93 hm
                  refine GS.skip ?_
                  refine GS.inBlock ?_
                  refine GS.region (env' := fun _ => [(0, .slice a0_o a0.length a0_c), (8, .int .u64 a2_1), (9, .pointer (some ⟨x6, 0, none⟩)), (10, .int .i64 (IntKind.i64.wrap (Int.tmod a2_0 4000))), (83, .slice x39 y37.1.length x40), (84, .int .i64 ((y37.1.length : Nat) : Int)), (85, .int .i64 ((v85_3 + 1 : Nat) : Int))]) (mem' := fun _ => [(1, r5 a0_o a0), (4, .cells x6 56 [.bool true, .pointer (sgp x26 none y24.2.1), .int .i64 y24.2.2]), (9, bag (sgs 59 nX59 x26 none y24.2.1)), (10, Ent.all (nins nJ59 x26 y24.2.1)), (12, o5 x39 x40 y37.1)]) (RunsTo.mk [(0, { sp := some (.int .i64 ((v85_3 + 1 : Nat) : Int)) })] [0, 8, 9, 10, 83, 84, 85] [1, 4, 9, 10, 12] (fun _ => [((.int .i64 (IntKind.i64.wrap (((v85_3 : Nat) : Int) + 1))) : Value) = .int .i64 ((v85_3 + 1 : Nat) : Int)]) (fun _ => by kernel_rfl) (fun _ => ⟨natw (drop_lt hd81) g82, trivial⟩)) ?_
                  intro _
                  refine GS.inLoop ?_
                  refine GS.rekey (env' := [(0, .slice a0_o a0.length a0_c), (8, .int .u64 a2_1), (9, .pointer (some ⟨x6, 0, none⟩)), (10, .int .i64 (IntKind.i64.wrap (Int.tmod a2_0 4000))), (83, .slice x39 y37.1.length x40), (84, .int .i64 ((y37.1.length : Nat) : Int)), (85, .int .i64 ((v85_3 + 1 : Nat) : Int))]) (mem' := [(1, r5 a0_o a0), (4, .cells x6 56 [.bool true, .pointer (sgp x26 none y24.2.1), .int .i64 y24.2.2]), (9, bag (sgs 59 nX59 x26 none y24.2.1)), (10, Ent.all (nins nJ59 x26 y24.2.1)), (12, o5 x39 x40 y37.1)]) [0, 8, 9, 10, 83, 84, 85] [(1, 1), (4, 4), (9, 9), (10, 10), (12, 12)] (by kernel_rfl) (by kernel_rfl) rfl ?_
                  exact ih100 ⟨rs99, v85_3 + 1⟩ ⟨drop_next hd81, hm⟩ (Nat.lt_succ_self _)

end Go.Proofs.Ytmdfkklldbfocaa
