/-
  slices.Insert of one element: the library's own text, walked.
-/
import Derived.Test.YtjnbkhnebmlilaaGreatM18o
import Derived.Test.YtjnbkhnebmlilaaGreatGxm
set_option linter.unusedVariables false
set_option linter.unusedSimpArgs false
set_option maxRecDepth 100000
namespace Go.Proofs.YtjnbkhnebmlilaaGreat
open Go Go.RowKit Sx

theorem ins54_in (ob : Option Addr) (cap : Nat) (l : List S_api_Last) (j : Nat) (vob : Option Addr) (vcap : Nat) (x : S_api_Last) (hj : j ≤ l.length) (hA : App (l.length + 1) 40) :
    CallG Tryz.prog 54 #[.slice ob l.length cap, .int .i64 (j : Int), .slice vob 1 vcap] (X := Option Addr × Nat) (fun ⟨x1, x2⟩ => .slice x1 (l.length + 1) x2) [o94 ob cap l, o94 vob vcap [x]] [] (fun ⟨x1, x2⟩ => [o94 x1 x2 (l.take j ++ (x :: l.drop j))]) := by
  intro w hg
  have hc : l.length ≤ cap := by have := (hg.ok (o94 ob cap l) (by simp)).1.1; rwa [List.length_map] at this
  have hvc : 1 ≤ vcap := by have := (hg.ok (o94 vob vcap [x]) (by simp)).1.1; simpa using this
  have hA2 : (l.length + 1) * (40 + 1) ≤ 70368744177664 := hA
  have hlen : l.length + 1 ≤ 70368744177664 := by omega
  have hw1 : Value.int .i64 (IntKind.i64.wrap (((l.length : Nat) : Int) + ((1 : Nat) : Int))) = .int .i64 ((l.length + 1 : Nat) : Int) := natw2 (show _ ≤ _ by omega)
  have hw2 : Value.int .i64 (IntKind.i64.wrap (((j : Nat) : Int) + ((1 : Nat) : Int))) = .int .i64 ((j + 1 : Nat) : Int) := natw2 (show _ ≤ _ by omega)
  have hw3 : Value.int .i64 (IntKind.i64.wrap (((l.length + 1 : Nat) : Int) - ((j : Nat) : Int))) = .int .i64 ((l.length + 1 - j : Nat) : Int) := by
    rw [wrap_i64 (by omega) (by omega)]; congr 1; omega
  have hml : (List.map S_api_Last.row l).length = l.length := List.length_map ..
  refine GS.start (S := mayT [o94 ob cap l, o94 vob vcap [x]] []) (mem := [(1, o94 ob cap l), (2, o94 vob vcap [x])]) Tryz.func54 rfl Tryz.ntmps54 (Nat.le_of_ble_eq_true rfl) (hg.start rfl) ?_
  refine GS.conv (env' := [(0, .slice ob l.length cap), (1, .int .i64 (j : Int)), (2, .slice vob 1 vcap)]) rfl rfl ?_
  refine GS.seq ?_
  refine GS.rM (env' := fun _ => [(0, .slice ob l.length cap), (1, .int .i64 (j : Int)), (2, .slice vob 1 vcap)]) (RunsTo.mk [] [0, 1, 2] [1, 2] (fun _ => []) (fun _ => by kernel_rfl) (fun _ => trivial)) (fun _ => ?_)
  refine GS.seq ?_
  refine GS.rM (env' := fun _ => [(0, .slice ob l.length cap), (1, .int .i64 (j : Int)), (2, .slice vob 1 vcap)]) (RunsTo.mk [(2, { act := .cut j l.length cap })] [0, 1, 2] [1, 2] (fun _ => [((j : Nat) : Int) = ((j : Nat) : Int), l.length = l.length, cap = cap, j ≤ l.length, l.length ≤ cap, cap ≤ cap, (none : Option Operand) = none → (none : Option Operand) = none]) (fun _ => by kernel_rfl) (fun _ => ⟨rfl, rfl, rfl, hj, hc, Nat.le_refl _, fun h => h, trivial⟩)) (fun _ => ?_)
  refine GS.seq ?_
  refine GS.rM (env' := fun _ => [(0, .slice ob l.length cap), (1, .int .i64 (j : Int)), (2, .slice vob 1 vcap), (7, .int .i64 ((1 : Nat) : Int))]) (RunsTo.mk [] [0, 1, 2, 7] [1, 2] (fun _ => []) (fun _ => by kernel_rfl) (fun _ => trivial)) (fun _ => ?_)
  refine GS.seq ?_
  refine GS.seq ?_
  refine GS.rM (env' := fun _ => [(0, .slice ob l.length cap), (1, .int .i64 (j : Int)), (2, .slice vob 1 vcap), (7, .int .i64 ((1 : Nat) : Int)), (16, .bool false)]) (RunsTo.mk [] [0, 1, 2, 7, 16] [1, 2] (fun _ => []) (fun _ => by kernel_rfl) (fun _ => trivial)) (fun _ => ?_)
  refine GS.cond (t := false) rfl rfl (fun h => by cases h) (fun _ => ?_)
  refine GS.skip ?_
  refine GS.seq ?_
  refine GS.rM (env' := fun _ => [(0, .slice ob l.length cap), (1, .int .i64 (j : Int)), (2, .slice vob 1 vcap), (7, .int .i64 ((1 : Nat) : Int)), (8, .int .i64 ((l.length : Nat) : Int))]) (RunsTo.mk [] [0, 1, 2, 7, 8] [1, 2] (fun _ => []) (fun _ => by kernel_rfl) (fun _ => trivial)) (fun _ => ?_)
  refine GS.seq ?_
  refine GS.seq ?_
  refine GS.rM (env' := fun _ => [(0, .slice ob l.length cap), (1, .int .i64 (j : Int)), (2, .slice vob 1 vcap), (7, .int .i64 ((1 : Nat) : Int)), (8, .int .i64 ((l.length : Nat) : Int)), (22, .bool (((j : Nat) : Int) == ((l.length : Nat) : Int)))]) (RunsTo.mk [] [0, 1, 2, 7, 8, 22] [1, 2] (fun _ => []) (fun _ => by kernel_rfl) (fun _ => trivial)) (fun _ => ?_)
  refine GS.cond (t := ((j : Nat) : Int) == ((l.length : Nat) : Int)) rfl rfl (fun h22 => ?_) (fun h22 => ?_)
  · have hjl : j = l.length := by have := eq_of_beq h22; omega
    refine GS.seq ?_
    refine GS.region (env' := fun fr => [(6, .slice (fr 2).ob (l.length + 1) (fr 2).cap)]) (mem' := fun fr => [(1, .osl (fr 2).ob (fr 2).cap 94 5 (List.map S_api_Last.row l ++ List.map S_api_Last.row [x]))]) (RunsTo.mk [(2, { act := .app (some 2), key := some 1 })] [6] [1] (fun fr => [vob = vob, 1 = (List.map S_api_Last.row [x]).length, ob = ob, cap = cap, l.length = (List.map S_api_Last.row l).length, ((List.map S_api_Last.row l).length + (List.map S_api_Last.row [x]).length) * (40 + 1) ≤ 70368744177664, (List.map S_api_Last.row [x]).flatten.all Value.oneCell' = true]) (fun fr => by kernel_rfl) (fun fr => ⟨rfl, rfl, rfl, rfl, hml.symm, (by rw [hml]; exact hA2), rfl, trivial⟩)) ?_
    intro fr
    refine GS.conv (mem' := [(1, o94 (fr 2).ob (fr 2).cap (l.take j ++ (x :: l.drop j)))]) rfl (congrArg (fun rr : List (List Value) => ([(1, .osl (fr 2).ob (fr 2).cap 94 5 rr)] : List (Nat × Ent))) (by rw [hjl, List.take_length, List.drop_length, List.map_append])) ?_
    refine GS.ret (fn := Tryz.f54) [0] [.slice (fr 2).ob (l.length + 1) (fr 2).cap] [] rfl Tryz.func54 (by kernel_rfl) trivial (fun w' hs => ?_)
    exact ⟨⟨(fr 2).ob, (fr 2).cap⟩, rfl, hs.turnedG (ks := [1]) rfl rfl⟩
  · have hjl : j < l.length := by
      rcases Nat.lt_or_ge j l.length with h | h
      · exact h
      · have : j = l.length := by omega
        subst this
        simp at h22
    refine GS.skip ?_
    refine GS.seq ?_
    refine GS.seq ?_
    refine GS.rM (env' := fun _ => [(0, .slice ob l.length cap), (1, .int .i64 (j : Int)), (2, .slice vob 1 vcap), (7, .int .i64 ((1 : Nat) : Int)), (8, .int .i64 ((l.length : Nat) : Int)), (31, .bool (decide (((l.length + 1 : Nat) : Int) > ((cap : Nat) : Int))))]) (RunsTo.mk [(2, { sp := some (.int .i64 ((l.length + 1 : Nat) : Int)) })] [0, 1, 2, 7, 8, 31] [1, 2] (fun _ => [Value.int .i64 (IntKind.i64.wrap (((l.length : Nat) : Int) + ((1 : Nat) : Int))) = .int .i64 ((l.length + 1 : Nat) : Int)]) (fun _ => by kernel_rfl) (fun _ => ⟨hw1, trivial⟩)) (fun _ => ?_)
    refine GS.cond (t := decide (((l.length + 1 : Nat) : Int) > ((cap : Nat) : Int))) rfl rfl (fun h31 => ?_) (fun h31 => ?_)
    · have hcl : cap = l.length := by have := of_decide_eq_true h31; omega
      refine GS.seq ?_
      refine GS.open_ ?_
      refine GR.ru (i := 0) 8 rfl (env' := fun _ => [(0, .slice ob l.length cap), (1, .int .i64 (j : Int)), (2, .slice vob 1 vcap), (7, .int .i64 ((1 : Nat) : Int)), (34, .slice ob j cap), (39, .int .i64 ((l.length + 1 - j : Nat) : Int))]) (mem' := fun _ => [(1, o94 ob cap l), (2, o94 vob vcap [x])]) (RunsTo.mk [(2, { act := .cut 0 j cap, sp := some (.slice ob j cap) }), (5, { sp := some (.int .i64 ((l.length + 1 : Nat) : Int)) }), (7, { sp := some (.int .i64 ((l.length + 1 - j : Nat) : Int)) })] [0, 1, 2, 7, 34, 39] [1, 2]
        (fun _ => [0 = 0, ((j : Nat) : Int) = ((j : Nat) : Int), cap = cap, 0 ≤ j, j ≤ cap, cap ≤ cap, (some (Operand.tmp 33) : Option Operand) = none → (none : Option Operand) = none, (.slice (if cap = 0 then ob else ob.map (fun a => a.add (0 * 5))) (j - 0) (cap - 0) : Value) = .slice ob j cap,
          Value.int .i64 (IntKind.i64.wrap (((l.length : Nat) : Int) + ((1 : Nat) : Int))) = .int .i64 ((l.length + 1 : Nat) : Int), Value.int .i64 (IntKind.i64.wrap (((l.length + 1 : Nat) : Int) - ((j : Nat) : Int))) = .int .i64 ((l.length + 1 - j : Nat) : Int)])
        (fun _ => by kernel_rfl) (fun _ => ⟨rfl, rfl, rfl, Nat.zero_le _, (by omega), Nat.le_refl _, (by intro h; cases h), cut_zero _ _ _ _, hw1, hw3, trivial⟩)) (fun _ => ?_)
      refine GR.prim (X := Option Addr × Nat) (i := 8) (v := fun p => .slice p.1 (l.length + 1) p.2)
        (mem' := fun p => [(1, r94 ob l), (2, o94 vob vcap [x]), (5, .osl p.1 p.2 94 5 (List.map S_api_Last.row (l.take j) ++ List.replicate (l.length + 1 - j) (S_api_Last.row dS_api_Last))), (6, .rd (cutOb ob j cap 5) 5 (((List.map S_api_Last.row l).drop j).take (l.length - j)))])
        (env' := fun p => [(0, .slice ob l.length cap), (1, .int .i64 (j : Int)), (2, .slice vob 1 vcap), (7, .int .i64 ((1 : Nat) : Int)), (40, .slice p.1 (l.length + 1) p.2)]) [0, 1, 2, 7, 40] rfl (by kernel_rfl) (fun w hw => ?_) (fun _ => by kernel_rfl) (fun p => ?_)
      · have h1 := hw.ok 1 (o94 ob cap l) rfl
        have htl : (List.map S_api_Last.row (l.take j)).length = j := by simp <;> omega
        obtain ⟨ob', cap', w', hr, hE⟩ := run_appendZ (P := Tryz.prog) (w := w) (st := 25) (yt := 3) (ty := 25) (elem := 94) (kn := .i64) (ki := .i64) (ob := ob) (cap := cap) (m := l.length + 1 - j) (rows := List.map S_api_Last.row (l.take j)) (sz := 5) (by_ := 40) (z := (S_api_Last.row dS_api_Last)) (by kernel_rfl) (by kernel_rfl) (by kernel_rfl) (by kernel_rfl) (by kernel_rfl) rfl (by decide) (by decide)
          (fun hne => by
            obtain ⟨a, arr, ha, hs, _, _, hR⟩ := h1.1.2 (by omega)
            refine ⟨a, ha, hs, fun i r hi => hR i r ?_⟩
            rw [List.map_take, List.getElem?_take] at hi
            split at hi
            · exact hi
            · cases hi) (by omega) (by omega) (by rw [htl]; rw [show j + (l.length + 1 - j) = l.length + 1 by omega]; exact hA2)
        rw [htl, show j + (l.length + 1 - j) = l.length + 1 by omega] at hr
        refine ⟨(ob', cap'), w', exec_append (s := .tmp 34) (y := .tmp 39) (st := 25) (yt := 3) rfl hr, ?_⟩
        have hs1 := hw.step (k := 5) (e' := some (.osl ob' cap' 94 5 (List.map S_api_Last.row (l.take j) ++ List.replicate (l.length + 1 - j) (S_api_Last.row dS_api_Last)))) hE
        rw [← look_snoc_upd rfl] at hs1
        have hs3 := Sat.downAt hs1 (k := 1) rfl (Cov.osl_rd (ob := ob) (cap := cap) (T := 94) (sz := 5) (rows := List.map S_api_Last.row l)) rfl rfl
        exact Sat.addCov hs3 (k := 6) (k0 := 1) rfl rfl rfl (rd_cut (ob := ob) (sz := 5) (rows := List.map S_api_Last.row l) (l := j) (hh := l.length) (m := cap) (by omega) (by omega)) rfl
      · obtain ⟨x1, x2⟩ := p
        refine GR.ru (i := 9) 1 rfl (env' := fun _ => [(0, .slice ob l.length cap), (1, .int .i64 (j : Int)), (2, .slice vob 1 vcap), (7, .int .i64 ((1 : Nat) : Int)), (9, .slice x1 (l.length + 1) x2)]) (mem' := fun _ => [(1, r94 ob l), (2, o94 vob vcap [x]), (5, .osl x1 x2 94 5 (List.map S_api_Last.row (l.take j) ++ List.replicate (l.length + 1 - j) (S_api_Last.row dS_api_Last))), (6, .rd (cutOb ob j cap 5) 5 (((List.map S_api_Last.row l).drop j).take (l.length - j)))])
          (RunsTo.mk [] [0, 1, 2, 7, 9] [1, 2, 5, 6] (fun _ => []) (fun _ => by kernel_rfl) (fun _ => trivial)) (fun _ => ?_)
        refine GR.dn rfl ?_
        have hZl : (List.map S_api_Last.row (l.take j) ++ List.replicate (l.length + 1 - j) (S_api_Last.row dS_api_Last)).length = l.length + 1 := by simp <;> omega
        have hZt : (List.map S_api_Last.row (l.take j) ++ List.replicate (l.length + 1 - j) (S_api_Last.row dS_api_Last)).take j = List.map S_api_Last.row (l.take j) := by rw [List.take_append_of_le_length (by simp <;> omega), List.take_of_length_le (by simp <;> omega)]
        generalize (List.map S_api_Last.row (l.take j) ++ List.replicate (l.length + 1 - j) (S_api_Last.row dS_api_Last)) = Z at hZl hZt ⊢
        refine GS.know (p := l.length + 1 ≤ x2) (fun w hw => by have := (hw.ok 5 _ rfl).1.1; rwa [hZl] at this) (fun hx2 => ?_)
        refine GS.seq ?_
        refine GS.region (env' := fun _ => [(0, .slice ob l.length cap), (1, .int .i64 (j : Int)), (7, .int .i64 ((1 : Nat) : Int)), (9, .slice x1 (l.length + 1) x2)]) (mem' := fun _ => [(1, r94 ob l), (5, .osl x1 x2 94 5 (Z.take j ++ (List.map S_api_Last.row [x] ++ Z.drop (j + (List.map S_api_Last.row [x]).length)))), (6, .rd (cutOb ob j cap 5) 5 (((List.map S_api_Last.row l).drop j).take (l.length - j)))])
          (RunsTo.mk [(2, { act := .cut j (l.length + 1) x2, sp := some (.slice (cutOb x1 j x2 5) (l.length + 1 - j) (x2 - j)) }), (4, { act := .copyAt j (some 2), key := some 5 })] [0, 1, 7, 9] [1, 5, 6]
            (fun _ => [((j : Nat) : Int) = ((j : Nat) : Int), l.length + 1 = l.length + 1, x2 = x2, j ≤ l.length + 1, l.length + 1 ≤ x2, x2 ≤ x2, (none : Option Operand) = none → (none : Option Operand) = none, (.slice (if x2 = j then x1 else x1.map (fun a => a.add (j * 5))) (l.length + 1 - j) (x2 - j) : Value) = .slice (cutOb x1 j x2 5) (l.length + 1 - j) (x2 - j),
              vob = vob, 1 = (List.map S_api_Last.row [x]).length, cutOb x1 j x2 5 = cutOb x1 j x2 5, l.length + 1 - j = Z.length - j, 1 ≤ (List.map S_api_Last.row [x]).length, j + (List.map S_api_Last.row [x]).length ≤ Z.length, (List.map S_api_Last.row [x]).flatten.all Value.oneCell' = true])
            (fun _ => by kernel_rfl) (fun _ => ⟨rfl, rfl, rfl, (by omega), hx2, Nat.le_refl _, (fun h => h), rfl, rfl, rfl, rfl, (by rw [hZl]), Nat.le_refl _, (by rw [hZl]; show j + 1 ≤ _; omega), rfl, trivial⟩)) ?_
        intro _
        refine GS.conv (mem' := [(1, r94 ob l), (5, .osl x1 x2 94 5 (List.map S_api_Last.row (l.take j ++ [x]) ++ Z.drop (j + 1))), (6, .rd (cutOb ob j cap 5) 5 (((List.map S_api_Last.row l).drop j).take (l.length - j)))]) rfl (congrArg (fun rr : List (List Value) => ([(1, r94 ob l), (5, .osl x1 x2 94 5 rr), (6, .rd (cutOb ob j cap 5) 5 (((List.map S_api_Last.row l).drop j).take (l.length - j)))] : List (Nat × Ent))) (by rw [hZt, List.map_append, List.append_assoc]; rfl)) ?_
        have hYl : (List.map S_api_Last.row (l.take j ++ [x]) ++ Z.drop (j + 1)).length = l.length + 1 := by simp [hZl]; omega
        have hYt : (List.map S_api_Last.row (l.take j ++ [x]) ++ Z.drop (j + 1)).take (j + 1) = List.map S_api_Last.row (l.take j ++ [x]) := by rw [List.take_append_of_le_length (by simp <;> omega), List.take_of_length_le (by simp <;> omega)]
        generalize (List.map S_api_Last.row (l.take j ++ [x]) ++ Z.drop (j + 1)) = Y at hYl hYt ⊢
        have hsrc : ((List.map S_api_Last.row l).drop j).take (l.length - j) = List.map S_api_Last.row (l.drop j) := by rw [List.take_of_length_le (by simp), List.map_drop]
        have hsl : (((List.map S_api_Last.row l).drop j).take (l.length - j)).length = l.length - j := by simp
        refine GS.seq ?_
        refine GS.region (env' := fun _ => [(9, .slice x1 (l.length + 1) x2)]) (mem' := fun _ => [(5, .osl x1 x2 94 5 (Y.take (j + 1) ++ ((((List.map S_api_Last.row l).drop j).take (l.length - j)) ++ Y.drop (j + 1 + (((List.map S_api_Last.row l).drop j).take (l.length - j)).length))))])
          (RunsTo.mkd [(3, { sp := some (.int .i64 ((j + 1 : Nat) : Int)) }), (4, { act := .cut (j + 1) (l.length + 1) x2, sp := some (.slice (cutOb x1 (j + 1) x2 5) (l.length + 1 - (j + 1)) (x2 - (j + 1))) }), (7, { act := .cut j l.length cap, sp := some (.slice (cutOb ob j cap 5) (l.length - j) (cap - j)) }), (8, { act := .copyAt (j + 1) (some 6), key := some 5 })] [9] [5]
            (fun _ => [Value.int .i64 (IntKind.i64.wrap (((j : Nat) : Int) + ((1 : Nat) : Int))) = .int .i64 ((j + 1 : Nat) : Int),
              ((j + 1 : Nat) : Int) = ((j + 1 : Nat) : Int), l.length + 1 = l.length + 1, x2 = x2, j + 1 ≤ l.length + 1, l.length + 1 ≤ x2, x2 ≤ x2, (none : Option Operand) = none → (none : Option Operand) = none, (.slice (if x2 = j + 1 then x1 else x1.map (fun a => a.add ((j + 1) * 5))) (l.length + 1 - (j + 1)) (x2 - (j + 1)) : Value) = .slice (cutOb x1 (j + 1) x2 5) (l.length + 1 - (j + 1)) (x2 - (j + 1)),
              ((j : Nat) : Int) = ((j : Nat) : Int), l.length = l.length, cap = cap, j ≤ l.length, l.length ≤ cap, cap ≤ cap, (none : Option Operand) = none → (none : Option Operand) = none, (.slice (if cap = j then ob else ob.map (fun a => a.add (j * 5))) (l.length - j) (cap - j) : Value) = .slice (cutOb ob j cap 5) (l.length - j) (cap - j),
              cutOb ob j cap 5 = cutOb ob j cap 5, l.length - j = (((List.map S_api_Last.row l).drop j).take (l.length - j)).length, cutOb x1 (j + 1) x2 5 = cutOb x1 (j + 1) x2 5, l.length + 1 - (j + 1) = Y.length - (j + 1), 1 ≤ (((List.map S_api_Last.row l).drop j).take (l.length - j)).length, j + 1 + (((List.map S_api_Last.row l).drop j).take (l.length - j)).length ≤ Y.length, (((List.map S_api_Last.row l).drop j).take (l.length - j)).flatten.all Value.oneCell' = true])
            (by kernel_rfl) (by kernel_rfl) (fun _ => by kernel_rfl) (fun _ => ⟨hw2, rfl, rfl, rfl, (by omega), hx2, Nat.le_refl _, (fun h => h), rfl, rfl, rfl, rfl, hj, hc, Nat.le_refl _, (fun h => h), rfl, rfl, hsl.symm, rfl, (by rw [hYl]), (by rw [hsl]; omega), (by rw [hsl, hYl]; omega), (by rw [hsrc]; exact all_one S_api_Last.row _ (fun _ => rfl)), trivial⟩)) ?_
        intro _
        refine GS.conv (mem' := [(5, o94 x1 x2 (l.take j ++ (x :: l.drop j)))]) rfl (congrArg (fun rr : List (List Value) => ([(5, .osl x1 x2 94 5 rr)] : List (Nat × Ent))) (by rw [hYt, hsl, hsrc, show Y.drop (j + 1 + (l.length - j)) = [] from List.drop_of_length_le (by omega), List.append_nil, ← List.map_append, List.append_assoc]; rfl)) ?_
        refine GS.seq ?_
        refine GS.rM (env' := fun _ => [(6, .slice x1 (l.length + 1) x2)]) (RunsTo.mk [] [6] [5] (fun _ => []) (fun _ => by kernel_rfl) (fun _ => trivial)) (fun _ => ?_)
        refine GS.ret (fn := Tryz.f54) [0] [.slice x1 (l.length + 1) x2] [] rfl Tryz.func54 (by kernel_rfl) trivial (fun w' hs => ?_)
        exact ⟨⟨x1, x2⟩, rfl, hs.turnedG (ks := [5]) rfl rfl⟩
    · have hcl : l.length + 1 ≤ cap := by have := of_decide_eq_false h31; omega
      refine GS.skip ?_
      refine GS.seq ?_
      refine GS.rM (env' := fun _ => [(0, .slice ob (l.length + 1) cap), (1, .int .i64 (j : Int)), (2, .slice vob 1 vcap), (7, .int .i64 ((1 : Nat) : Int))]) (RunsTo.mk [(3, { sp := some (.int .i64 ((l.length + 1 : Nat) : Int)) }), (4, { act := .cut 0 (l.length + 1) cap, sp := some (.slice ob (l.length + 1) cap) })] [0, 1, 2, 7] [1, 2]
        (fun _ => [Value.int .i64 (IntKind.i64.wrap (((l.length : Nat) : Int) + ((1 : Nat) : Int))) = .int .i64 ((l.length + 1 : Nat) : Int), 0 = 0, ((l.length + 1 : Nat) : Int) = ((l.length + 1 : Nat) : Int), cap = cap, 0 ≤ l.length + 1, l.length + 1 ≤ cap, cap ≤ cap, (some (Operand.tmp 59) : Option Operand) = none → (none : Option Operand) = none, (.slice (if cap = 0 then ob else ob.map (fun a => a.add (0 * 5))) (l.length + 1 - 0) (cap - 0) : Value) = .slice ob (l.length + 1) cap])
        (fun _ => by kernel_rfl) (fun _ => ⟨hw1, rfl, rfl, rfl, Nat.zero_le _, hcl, Nat.le_refl _, (by intro h; cases h), cut_zero _ _ _ _, trivial⟩)) (fun _ => ?_)
      refine GS.setMemE (X := List Value) (mem' := fun r => [(1, .osl ob cap 94 5 (List.map S_api_Last.row l ++ [r])), (2, o94 vob vcap [x])]) (fun w hw => ?_) (fun r => ?_)
      · obtain ⟨r, hr⟩ := osl_more (hw.ok 1 (o94 ob cap l) rfl) (by rw [hml]; omega)
        refine ⟨r, ?_⟩
        have := hw.step (k := 1) (e' := some (.osl ob cap 94 5 (List.map S_api_Last.row l ++ [r]))) (w' := w) ⟨Keep.refl _ _, fun E hE => by cases hE; exact hr, fun E hE b hb => .inr ⟨_, rfl, by cases hE; exact hb, fun h => rfl⟩⟩
        rw [← look_setKey (mem := [(1, o94 ob cap l), (2, o94 vob vcap [x])]) (k := 1) rfl] at this
        exact this
      have hRl : (List.map S_api_Last.row l ++ [r]).length = l.length + 1 := by simp
      have hRt : (List.map S_api_Last.row l ++ [r]).take (j + 1) = List.map S_api_Last.row (l.take (j + 1)) := by rw [List.take_append_of_le_length (by simp <;> omega), List.map_take]
      have hRd : ((List.map S_api_Last.row l ++ [r]).drop j).take (l.length + 1 - (j + 1)) = List.map S_api_Last.row (l.drop j) := by
        rw [List.drop_append_of_le_length (by simp <;> omega), List.take_append_of_le_length (by simp <;> omega), List.take_of_length_le (by simp <;> omega), List.map_drop]
      generalize (List.map S_api_Last.row l ++ [r]) = Z at hRl hRt hRd ⊢
      refine GS.seq ?_
      refine GS.seq ?_
      refine GS.open_ ?_
      refine GR.ru (i := 0) 6 rfl (env' := fun _ => [(0, .slice ob (l.length + 1) cap), (1, .int .i64 (j : Int)), (2, .slice vob 1 vcap), (7, .int .i64 ((1 : Nat) : Int)), (61, .slice vob 1 vcap), (66, .slice (cutOb ob (j + 1) cap 5) (l.length + 1 - (j + 1)) (cap - (j + 1)))]) (mem' := fun _ => [(1, .osl ob cap 94 5 Z), (2, o94 vob vcap [x])])
        (RunsTo.mk [(4, { sp := some (.int .i64 ((j + 1 : Nat) : Int)) }), (5, { act := .cut (j + 1) (l.length + 1) cap, sp := some (.slice (cutOb ob (j + 1) cap 5) (l.length + 1 - (j + 1)) (cap - (j + 1))) })] [0, 1, 2, 7, 61, 66] [1, 2]
          (fun _ => [Value.int .i64 (IntKind.i64.wrap (((j : Nat) : Int) + ((1 : Nat) : Int))) = .int .i64 ((j + 1 : Nat) : Int), ((j + 1 : Nat) : Int) = ((j + 1 : Nat) : Int), l.length + 1 = l.length + 1, cap = cap, j + 1 ≤ l.length + 1, l.length + 1 ≤ cap, cap ≤ cap, (none : Option Operand) = none → (none : Option Operand) = none, (.slice (if cap = j + 1 then ob else ob.map (fun a => a.add ((j + 1) * 5))) (l.length + 1 - (j + 1)) (cap - (j + 1)) : Value) = .slice (cutOb ob (j + 1) cap 5) (l.length + 1 - (j + 1)) (cap - (j + 1))])
          (fun _ => by kernel_rfl) (fun _ => ⟨hw2, rfl, rfl, rfl, (by omega), hcl, Nat.le_refl _, (fun h => h), rfl, trivial⟩)) (fun _ => ?_)
      refine GR.prim (X := Unit) (i := 6) (v := fun _ => .bool false) (mem' := fun _ => [(1, .osl ob cap 94 5 Z), (2, o94 vob vcap [x])]) (env' := fun _ => [(0, .slice ob (l.length + 1) cap), (1, .int .i64 (j : Int)), (2, .slice vob 1 vcap), (7, .int .i64 ((1 : Nat) : Int)), (67, .bool false)]) [0, 1, 2, 7, 67] rfl (by kernel_rfl) (fun w hw => ?_) (fun _ => by kernel_rfl) (fun _ => ?_)
      · refine ⟨(), w, exec_func (f := 78) (x := .tmp 61) (y := .tmp 66) (st := 25) (yt := 25) rfl rfl (run_apart (fn := Tryz.f78) (tS := 25) (tR := 4) (e := 94) (size := 5) (ob := ob) (vob := vob) (cap := cap) (vcap := vcap) (T := 94) (T' := 94) (sz := 5) (rows := Z) (vrows := List.map S_api_Last.row [x]) Tryz.func78 (by kernel_rfl) (by kernel_rfl) (by kernel_rfl) (by kernel_rfl) (by kernel_rfl) (by kernel_rfl) (by decide) (by decide) (hw.ok 1 _ rfl) (hw.ok 2 (o94 vob vcap [x]) rfl) (by omega) (by omega) (fun b hb => hw.apart 1 2 _ (o94 vob vcap [x]) (by decide) rfl rfl rfl b hb)), hw⟩
      refine GR.ru (i := 7) 1 rfl (env' := fun _ => [(0, .slice ob (l.length + 1) cap), (1, .int .i64 (j : Int)), (2, .slice vob 1 vcap), (7, .int .i64 ((1 : Nat) : Int)), (68, .bool true)]) (mem' := fun _ => [(1, .osl ob cap 94 5 Z), (2, o94 vob vcap [x])]) (RunsTo.mk [] [0, 1, 2, 7, 68] [1, 2] (fun _ => []) (fun _ => by kernel_rfl) (fun _ => trivial)) (fun _ => ?_)
      refine GR.dn rfl ?_
      refine GS.cond (t := true) rfl rfl (fun _ => ?_) (fun h => by cases h)
      refine GS.seq ?_
      refine GS.regionMid 8 1 (env' := fun _ => [(0, .slice ob (l.length + 1) cap), (1, .int .i64 (j : Int)), (2, .slice vob 1 vcap), (73, .slice (cutOb ob (j + 1) cap 5) (l.length + 1 - (j + 1)) (cap - (j + 1))), (76, .slice (cutOb ob j cap 5) (l.length + 1 - j) (cap - j))]) (mem' := fun _ => [(1, .osl ob cap 94 5 Z), (2, o94 vob vcap [x])]) [(3, { sp := some (.int .i64 ((j + 1 : Nat) : Int)) }), (4, { act := .cut (j + 1) (l.length + 1) cap, sp := some (.slice (cutOb ob (j + 1) cap 5) (l.length + 1 - (j + 1)) (cap - (j + 1))) }), (7, { act := .cut j (l.length + 1) cap, sp := some (.slice (cutOb ob j cap 5) (l.length + 1 - j) (cap - j)) })] [0, 1, 2, 73, 76] [1, 2]
        (fun _ => [Value.int .i64 (IntKind.i64.wrap (((j : Nat) : Int) + ((1 : Nat) : Int))) = .int .i64 ((j + 1 : Nat) : Int), ((j + 1 : Nat) : Int) = ((j + 1 : Nat) : Int), l.length + 1 = l.length + 1, cap = cap, j + 1 ≤ l.length + 1, l.length + 1 ≤ cap, cap ≤ cap, (none : Option Operand) = none → (none : Option Operand) = none, (.slice (if cap = j + 1 then ob else ob.map (fun a => a.add ((j + 1) * 5))) (l.length + 1 - (j + 1)) (cap - (j + 1)) : Value) = .slice (cutOb ob (j + 1) cap 5) (l.length + 1 - (j + 1)) (cap - (j + 1)),
          ((j : Nat) : Int) = ((j : Nat) : Int), l.length + 1 = l.length + 1, cap = cap, j ≤ l.length + 1, l.length + 1 ≤ cap, cap ≤ cap, (none : Option Operand) = none → (none : Option Operand) = none, (.slice (if cap = j then ob else ob.map (fun a => a.add (j * 5))) (l.length + 1 - j) (cap - j) : Value) = .slice (cutOb ob j cap 5) (l.length + 1 - j) (cap - j)])
        (by kernel_rfl) (by kernel_rfl) (by kernel_rfl) (by kernel_rfl) (fun _ => by kernel_rfl) (fun _ => ⟨hw2, rfl, rfl, rfl, (by omega), hcl, Nat.le_refl _, (fun h => h), rfl, rfl, rfl, rfl, (by omega), hcl, Nat.le_refl _, (fun h => h), rfl, trivial⟩) (fun _ => ?_)
      refine GA.prim (X := Unit) (i := 8) (v := fun _ => .int .i64 ((l.length + 1 - (j + 1) : Nat) : Int)) (mem' := fun _ => [(1, .osl ob cap 94 5 (Z.take (j + 1) ++ (Z.drop j).take (Z.length - (j + 1)))), (2, o94 vob vcap [x])]) (env' := fun _ => [(0, .slice ob (l.length + 1) cap), (1, .int .i64 (j : Int)), (2, .slice vob 1 vcap)]) [0, 1, 2] (by kernel_rfl) rfl (by kernel_rfl) (fun w hw => ?_) (fun _ => by kernel_rfl) (fun _ => ?_)
      · obtain ⟨w', hr, hE⟩ := run_copySelf (P := Tryz.prog) (st := 25) (yt := 25) (ty := 3) (elem := 94) (sz := 5) (l := j + 1) (j := j) (dc := cap - (j + 1)) (sc := cap - j) (by kernel_rfl) (by kernel_rfl) (hw.ok 1 _ rfl) (by omega) (by omega) (by rw [hRl, hRd]; exact all_one S_api_Last.row _ (fun _ => rfl))
        have hs := hw.step (k := 1) hE
        rw [← look_setKey (mem := [(1, .osl ob cap 94 5 Z), (2, o94 vob vcap [x])]) (k := 1) rfl] at hs
        simp only [hRl] at hr
        exact ⟨(), w', exec_copy (s := .tmp 73) (y := .tmp 76) (st := 25) (yt := 25) rfl hr, hs⟩
      refine GA.rest (i := 9) (env' := fun _ => [(0, .slice ob (l.length + 1) cap), (1, .int .i64 (j : Int)), (2, .slice vob 1 vcap)]) (mem' := fun _ => [(1, .osl ob cap 94 5 (Z.take (j + 1) ++ (Z.drop j).take (Z.length - (j + 1)))), (2, o94 vob vcap [x])]) [] [0, 1, 2] [1, 2] (fun _ => []) (by kernel_rfl) (fun _ => by kernel_rfl) (fun _ => trivial) (fun _ => ?_)
      have hYe : Z.take (j + 1) ++ (Z.drop j).take (Z.length - (j + 1)) = List.map S_api_Last.row (l.take (j + 1) ++ l.drop j) := by rw [hRl, hRt, hRd, List.map_append]
      have hYl : (Z.take (j + 1) ++ (Z.drop j).take (Z.length - (j + 1))).length = l.length + 1 := by rw [hYe]; simp; omega
      generalize (Z.take (j + 1) ++ (Z.drop j).take (Z.length - (j + 1))) = Y at hYe hYl ⊢
      refine GS.seq ?_
      refine GS.region (env' := fun _ => [(0, .slice ob (l.length + 1) cap)]) (mem' := fun _ => [(1, .osl ob cap 94 5 (Y.take j ++ (List.map S_api_Last.row [x] ++ Y.drop (j + (List.map S_api_Last.row [x]).length))))])
        (RunsTo.mk [(2, { act := .cut j (l.length + 1) cap, sp := some (.slice (cutOb ob j cap 5) (l.length + 1 - j) (cap - j)) }), (4, { act := .copyAt j (some 2), key := some 1 })] [0] [1]
          (fun _ => [((j : Nat) : Int) = ((j : Nat) : Int), l.length + 1 = l.length + 1, cap = cap, j ≤ l.length + 1, l.length + 1 ≤ cap, cap ≤ cap, (none : Option Operand) = none → (none : Option Operand) = none, (.slice (if cap = j then ob else ob.map (fun a => a.add (j * 5))) (l.length + 1 - j) (cap - j) : Value) = .slice (cutOb ob j cap 5) (l.length + 1 - j) (cap - j),
            vob = vob, 1 = (List.map S_api_Last.row [x]).length, cutOb ob j cap 5 = cutOb ob j cap 5, l.length + 1 - j = Y.length - j, 1 ≤ (List.map S_api_Last.row [x]).length, j + (List.map S_api_Last.row [x]).length ≤ Y.length, (List.map S_api_Last.row [x]).flatten.all Value.oneCell' = true])
          (fun _ => by kernel_rfl) (fun _ => ⟨rfl, rfl, rfl, (by omega), hcl, Nat.le_refl _, (fun h => h), rfl, rfl, rfl, rfl, (by rw [hYl]), Nat.le_refl _, (by rw [hYl]; show j + 1 ≤ _; omega), rfl, trivial⟩)) ?_
      intro _
      refine GS.conv (mem' := [(1, o94 ob cap (l.take j ++ (x :: l.drop j)))]) rfl (congrArg (fun rr : List (List Value) => ([(1, .osl ob cap 94 5 rr)] : List (Nat × Ent))) (by
        rw [hYe]
        have e1 : (l.take (j + 1) ++ l.drop j).take j = l.take j := by rw [List.take_append_of_le_length (by simp <;> omega), List.take_take, Nat.min_eq_left (by omega)]
        have e2 : (l.take (j + 1) ++ l.drop j).drop (j + 1) = l.drop j := by rw [List.drop_append_of_le_length (by simp <;> omega), List.drop_of_length_le (by simp <;> omega), List.nil_append]
        rw [← List.map_take, ← List.map_drop, e1]
        show List.map S_api_Last.row (l.take j) ++ (List.map S_api_Last.row [x] ++ List.map S_api_Last.row ((l.take (j + 1) ++ l.drop j).drop (j + 1))) = _
        rw [e2, ← List.map_append, ← List.map_append]; rfl)) ?_
      refine GS.seq ?_
      refine GS.rM (env' := fun _ => [(6, .slice ob (l.length + 1) cap)]) (RunsTo.mk [] [6] [1] (fun _ => []) (fun _ => by kernel_rfl) (fun _ => trivial)) (fun _ => ?_)
      refine GS.ret (fn := Tryz.f54) [0] [.slice ob (l.length + 1) cap] [] rfl Tryz.func54 (by kernel_rfl) trivial (fun w' hs => ?_)
      exact ⟨⟨ob, cap⟩, rfl, hs.turnedG (ks := [1]) rfl rfl⟩

theorem ins54_ok (ob : Option Addr) (cap : Nat) (l : List S_api_Last) (i : Int) (vob : Option Addr) (vcap : Nat) (m : List S_api_Last) (hm : m.length = 1) (h1 : 0 ≤ i) (h2 : Int.toNat i ≤ l.length) (h3 : App (l.length + 1) 40) :
    CallG Tryz.prog 54 #[.slice ob l.length cap, .int .i64 i, .slice vob m.length vcap] (X := Option Addr × Nat) (fun ⟨x1, x2⟩ => .slice x1 (l.take (Int.toNat i) ++ (m ++ l.drop (Int.toNat i))).length x2) [o94 ob cap l, o94 vob vcap m] [] (fun ⟨x1, x2⟩ => [o94 x1 x2 (l.take (Int.toNat i) ++ (m ++ l.drop (Int.toNat i)))]) := by
  obtain ⟨x, rfl⟩ := List.length_eq_one_iff.1 hm
  obtain ⟨j, rfl⟩ := Int.eq_ofNat_of_zero_le h1
  simp only [Int.toNat_natCast] at h2 ⊢
  have hl : (l.take j ++ ([x] ++ l.drop j)).length = l.length + 1 := by simp <;> omega
  rw [hl]
  exact ins54_in ob cap l j vob vcap x h2 h3

end Go.Proofs.YtjnbkhnebmlilaaGreat

set_option linter.unusedVariables false
set_option linter.unusedSimpArgs false
set_option maxRecDepth 100000
namespace Go.Proofs.YtjnbkhnebmlilaaGreat
open Go Go.RowKit Sx

theorem ins58_in (ob : Option Addr) (cap : Nat) (l : List S_api_Item) (j : Nat) (vob : Option Addr) (vcap : Nat) (x : S_api_Item) (hj : j ≤ l.length) (hA : App (l.length + 1) 40) :
    CallG Tryz.prog 58 #[.slice ob l.length cap, .int .i64 (j : Int), .slice vob 1 vcap] (X := Option Addr × Nat) (fun ⟨x1, x2⟩ => .slice x1 (l.length + 1) x2) [o91 ob cap l, o91 vob vcap [x]] [] (fun ⟨x1, x2⟩ => [o91 x1 x2 (l.take j ++ (x :: l.drop j))]) := by
  intro w hg
  have hc : l.length ≤ cap := by have := (hg.ok (o91 ob cap l) (by simp)).1.1; rwa [List.length_map] at this
  have hvc : 1 ≤ vcap := by have := (hg.ok (o91 vob vcap [x]) (by simp)).1.1; simpa using this
  have hA2 : (l.length + 1) * (40 + 1) ≤ 70368744177664 := hA
  have hlen : l.length + 1 ≤ 70368744177664 := by omega
  have hw1 : Value.int .i64 (IntKind.i64.wrap (((l.length : Nat) : Int) + ((1 : Nat) : Int))) = .int .i64 ((l.length + 1 : Nat) : Int) := natw2 (show _ ≤ _ by omega)
  have hw2 : Value.int .i64 (IntKind.i64.wrap (((j : Nat) : Int) + ((1 : Nat) : Int))) = .int .i64 ((j + 1 : Nat) : Int) := natw2 (show _ ≤ _ by omega)
  have hw3 : Value.int .i64 (IntKind.i64.wrap (((l.length + 1 : Nat) : Int) - ((j : Nat) : Int))) = .int .i64 ((l.length + 1 - j : Nat) : Int) := by
    rw [wrap_i64 (by omega) (by omega)]; congr 1; omega
  have hml : (List.map S_api_Item.row l).length = l.length := List.length_map ..
  refine GS.start (S := mayT [o91 ob cap l, o91 vob vcap [x]] []) (mem := [(1, o91 ob cap l), (2, o91 vob vcap [x])]) Tryz.func58 rfl Tryz.ntmps58 (Nat.le_of_ble_eq_true rfl) (hg.start rfl) ?_
  refine GS.conv (env' := [(0, .slice ob l.length cap), (1, .int .i64 (j : Int)), (2, .slice vob 1 vcap)]) rfl rfl ?_
  refine GS.seq ?_
  refine GS.rM (env' := fun _ => [(0, .slice ob l.length cap), (1, .int .i64 (j : Int)), (2, .slice vob 1 vcap)]) (RunsTo.mk [] [0, 1, 2] [1, 2] (fun _ => []) (fun _ => by kernel_rfl) (fun _ => trivial)) (fun _ => ?_)
  refine GS.seq ?_
  refine GS.rM (env' := fun _ => [(0, .slice ob l.length cap), (1, .int .i64 (j : Int)), (2, .slice vob 1 vcap)]) (RunsTo.mk [(2, { act := .cut j l.length cap })] [0, 1, 2] [1, 2] (fun _ => [((j : Nat) : Int) = ((j : Nat) : Int), l.length = l.length, cap = cap, j ≤ l.length, l.length ≤ cap, cap ≤ cap, (none : Option Operand) = none → (none : Option Operand) = none]) (fun _ => by kernel_rfl) (fun _ => ⟨rfl, rfl, rfl, hj, hc, Nat.le_refl _, fun h => h, trivial⟩)) (fun _ => ?_)
  refine GS.seq ?_
  refine GS.rM (env' := fun _ => [(0, .slice ob l.length cap), (1, .int .i64 (j : Int)), (2, .slice vob 1 vcap), (7, .int .i64 ((1 : Nat) : Int))]) (RunsTo.mk [] [0, 1, 2, 7] [1, 2] (fun _ => []) (fun _ => by kernel_rfl) (fun _ => trivial)) (fun _ => ?_)
  refine GS.seq ?_
  refine GS.seq ?_
  refine GS.rM (env' := fun _ => [(0, .slice ob l.length cap), (1, .int .i64 (j : Int)), (2, .slice vob 1 vcap), (7, .int .i64 ((1 : Nat) : Int)), (16, .bool false)]) (RunsTo.mk [] [0, 1, 2, 7, 16] [1, 2] (fun _ => []) (fun _ => by kernel_rfl) (fun _ => trivial)) (fun _ => ?_)
  refine GS.cond (t := false) rfl rfl (fun h => by cases h) (fun _ => ?_)
  refine GS.skip ?_
  refine GS.seq ?_
  refine GS.rM (env' := fun _ => [(0, .slice ob l.length cap), (1, .int .i64 (j : Int)), (2, .slice vob 1 vcap), (7, .int .i64 ((1 : Nat) : Int)), (8, .int .i64 ((l.length : Nat) : Int))]) (RunsTo.mk [] [0, 1, 2, 7, 8] [1, 2] (fun _ => []) (fun _ => by kernel_rfl) (fun _ => trivial)) (fun _ => ?_)
  refine GS.seq ?_
  refine GS.seq ?_
  refine GS.rM (env' := fun _ => [(0, .slice ob l.length cap), (1, .int .i64 (j : Int)), (2, .slice vob 1 vcap), (7, .int .i64 ((1 : Nat) : Int)), (8, .int .i64 ((l.length : Nat) : Int)), (22, .bool (((j : Nat) : Int) == ((l.length : Nat) : Int)))]) (RunsTo.mk [] [0, 1, 2, 7, 8, 22] [1, 2] (fun _ => []) (fun _ => by kernel_rfl) (fun _ => trivial)) (fun _ => ?_)
  refine GS.cond (t := ((j : Nat) : Int) == ((l.length : Nat) : Int)) rfl rfl (fun h22 => ?_) (fun h22 => ?_)
  · have hjl : j = l.length := by have := eq_of_beq h22; omega
    refine GS.seq ?_
    refine GS.region (env' := fun fr => [(6, .slice (fr 2).ob (l.length + 1) (fr 2).cap)]) (mem' := fun fr => [(1, .osl (fr 2).ob (fr 2).cap 91 4 (List.map S_api_Item.row l ++ List.map S_api_Item.row [x]))]) (RunsTo.mk [(2, { act := .app (some 2), key := some 1 })] [6] [1] (fun fr => [vob = vob, 1 = (List.map S_api_Item.row [x]).length, ob = ob, cap = cap, l.length = (List.map S_api_Item.row l).length, ((List.map S_api_Item.row l).length + (List.map S_api_Item.row [x]).length) * (40 + 1) ≤ 70368744177664, (List.map S_api_Item.row [x]).flatten.all Value.oneCell' = true]) (fun fr => by kernel_rfl) (fun fr => ⟨rfl, rfl, rfl, rfl, hml.symm, (by rw [hml]; exact hA2), rfl, trivial⟩)) ?_
    intro fr
    refine GS.conv (mem' := [(1, o91 (fr 2).ob (fr 2).cap (l.take j ++ (x :: l.drop j)))]) rfl (congrArg (fun rr : List (List Value) => ([(1, .osl (fr 2).ob (fr 2).cap 91 4 rr)] : List (Nat × Ent))) (by rw [hjl, List.take_length, List.drop_length, List.map_append])) ?_
    refine GS.ret (fn := Tryz.f58) [0] [.slice (fr 2).ob (l.length + 1) (fr 2).cap] [] rfl Tryz.func58 (by kernel_rfl) trivial (fun w' hs => ?_)
    exact ⟨⟨(fr 2).ob, (fr 2).cap⟩, rfl, hs.turnedG (ks := [1]) rfl rfl⟩
  · have hjl : j < l.length := by
      rcases Nat.lt_or_ge j l.length with h | h
      · exact h
      · have : j = l.length := by omega
        subst this
        simp at h22
    refine GS.skip ?_
    refine GS.seq ?_
    refine GS.seq ?_
    refine GS.rM (env' := fun _ => [(0, .slice ob l.length cap), (1, .int .i64 (j : Int)), (2, .slice vob 1 vcap), (7, .int .i64 ((1 : Nat) : Int)), (8, .int .i64 ((l.length : Nat) : Int)), (31, .bool (decide (((l.length + 1 : Nat) : Int) > ((cap : Nat) : Int))))]) (RunsTo.mk [(2, { sp := some (.int .i64 ((l.length + 1 : Nat) : Int)) })] [0, 1, 2, 7, 8, 31] [1, 2] (fun _ => [Value.int .i64 (IntKind.i64.wrap (((l.length : Nat) : Int) + ((1 : Nat) : Int))) = .int .i64 ((l.length + 1 : Nat) : Int)]) (fun _ => by kernel_rfl) (fun _ => ⟨hw1, trivial⟩)) (fun _ => ?_)
    refine GS.cond (t := decide (((l.length + 1 : Nat) : Int) > ((cap : Nat) : Int))) rfl rfl (fun h31 => ?_) (fun h31 => ?_)
    · have hcl : cap = l.length := by have := of_decide_eq_true h31; omega
      refine GS.seq ?_
      refine GS.open_ ?_
      refine GR.ru (i := 0) 8 rfl (env' := fun _ => [(0, .slice ob l.length cap), (1, .int .i64 (j : Int)), (2, .slice vob 1 vcap), (7, .int .i64 ((1 : Nat) : Int)), (34, .slice ob j cap), (39, .int .i64 ((l.length + 1 - j : Nat) : Int))]) (mem' := fun _ => [(1, o91 ob cap l), (2, o91 vob vcap [x])]) (RunsTo.mk [(2, { act := .cut 0 j cap, sp := some (.slice ob j cap) }), (5, { sp := some (.int .i64 ((l.length + 1 : Nat) : Int)) }), (7, { sp := some (.int .i64 ((l.length + 1 - j : Nat) : Int)) })] [0, 1, 2, 7, 34, 39] [1, 2]
        (fun _ => [0 = 0, ((j : Nat) : Int) = ((j : Nat) : Int), cap = cap, 0 ≤ j, j ≤ cap, cap ≤ cap, (some (Operand.tmp 33) : Option Operand) = none → (none : Option Operand) = none, (.slice (if cap = 0 then ob else ob.map (fun a => a.add (0 * 4))) (j - 0) (cap - 0) : Value) = .slice ob j cap,
          Value.int .i64 (IntKind.i64.wrap (((l.length : Nat) : Int) + ((1 : Nat) : Int))) = .int .i64 ((l.length + 1 : Nat) : Int), Value.int .i64 (IntKind.i64.wrap (((l.length + 1 : Nat) : Int) - ((j : Nat) : Int))) = .int .i64 ((l.length + 1 - j : Nat) : Int)])
        (fun _ => by kernel_rfl) (fun _ => ⟨rfl, rfl, rfl, Nat.zero_le _, (by omega), Nat.le_refl _, (by intro h; cases h), cut_zero _ _ _ _, hw1, hw3, trivial⟩)) (fun _ => ?_)
      refine GR.prim (X := Option Addr × Nat) (i := 8) (v := fun p => .slice p.1 (l.length + 1) p.2)
        (mem' := fun p => [(1, r91 ob l), (2, o91 vob vcap [x]), (5, .osl p.1 p.2 91 4 (List.map S_api_Item.row (l.take j) ++ List.replicate (l.length + 1 - j) (S_api_Item.row dS_api_Item))), (6, .rd (cutOb ob j cap 4) 4 (((List.map S_api_Item.row l).drop j).take (l.length - j)))])
        (env' := fun p => [(0, .slice ob l.length cap), (1, .int .i64 (j : Int)), (2, .slice vob 1 vcap), (7, .int .i64 ((1 : Nat) : Int)), (40, .slice p.1 (l.length + 1) p.2)]) [0, 1, 2, 7, 40] rfl (by kernel_rfl) (fun w hw => ?_) (fun _ => by kernel_rfl) (fun p => ?_)
      · have h1 := hw.ok 1 (o91 ob cap l) rfl
        have htl : (List.map S_api_Item.row (l.take j)).length = j := by simp <;> omega
        obtain ⟨ob', cap', w', hr, hE⟩ := run_appendZ (P := Tryz.prog) (w := w) (st := 26) (yt := 3) (ty := 26) (elem := 91) (kn := .i64) (ki := .i64) (ob := ob) (cap := cap) (m := l.length + 1 - j) (rows := List.map S_api_Item.row (l.take j)) (sz := 4) (by_ := 40) (z := (S_api_Item.row dS_api_Item)) (by kernel_rfl) (by kernel_rfl) (by kernel_rfl) (by kernel_rfl) (by kernel_rfl) rfl (by decide) (by decide)
          (fun hne => by
            obtain ⟨a, arr, ha, hs, _, _, hR⟩ := h1.1.2 (by omega)
            refine ⟨a, ha, hs, fun i r hi => hR i r ?_⟩
            rw [List.map_take, List.getElem?_take] at hi
            split at hi
            · exact hi
            · cases hi) (by omega) (by omega) (by rw [htl]; rw [show j + (l.length + 1 - j) = l.length + 1 by omega]; exact hA2)
        rw [htl, show j + (l.length + 1 - j) = l.length + 1 by omega] at hr
        refine ⟨(ob', cap'), w', exec_append (s := .tmp 34) (y := .tmp 39) (st := 26) (yt := 3) rfl hr, ?_⟩
        have hs1 := hw.step (k := 5) (e' := some (.osl ob' cap' 91 4 (List.map S_api_Item.row (l.take j) ++ List.replicate (l.length + 1 - j) (S_api_Item.row dS_api_Item)))) hE
        rw [← look_snoc_upd rfl] at hs1
        have hs3 := Sat.downAt hs1 (k := 1) rfl (Cov.osl_rd (ob := ob) (cap := cap) (T := 91) (sz := 4) (rows := List.map S_api_Item.row l)) rfl rfl
        exact Sat.addCov hs3 (k := 6) (k0 := 1) rfl rfl rfl (rd_cut (ob := ob) (sz := 4) (rows := List.map S_api_Item.row l) (l := j) (hh := l.length) (m := cap) (by omega) (by omega)) rfl
      · obtain ⟨x1, x2⟩ := p
        refine GR.ru (i := 9) 1 rfl (env' := fun _ => [(0, .slice ob l.length cap), (1, .int .i64 (j : Int)), (2, .slice vob 1 vcap), (7, .int .i64 ((1 : Nat) : Int)), (9, .slice x1 (l.length + 1) x2)]) (mem' := fun _ => [(1, r91 ob l), (2, o91 vob vcap [x]), (5, .osl x1 x2 91 4 (List.map S_api_Item.row (l.take j) ++ List.replicate (l.length + 1 - j) (S_api_Item.row dS_api_Item))), (6, .rd (cutOb ob j cap 4) 4 (((List.map S_api_Item.row l).drop j).take (l.length - j)))])
          (RunsTo.mk [] [0, 1, 2, 7, 9] [1, 2, 5, 6] (fun _ => []) (fun _ => by kernel_rfl) (fun _ => trivial)) (fun _ => ?_)
        refine GR.dn rfl ?_
        have hZl : (List.map S_api_Item.row (l.take j) ++ List.replicate (l.length + 1 - j) (S_api_Item.row dS_api_Item)).length = l.length + 1 := by simp <;> omega
        have hZt : (List.map S_api_Item.row (l.take j) ++ List.replicate (l.length + 1 - j) (S_api_Item.row dS_api_Item)).take j = List.map S_api_Item.row (l.take j) := by rw [List.take_append_of_le_length (by simp <;> omega), List.take_of_length_le (by simp <;> omega)]
        generalize (List.map S_api_Item.row (l.take j) ++ List.replicate (l.length + 1 - j) (S_api_Item.row dS_api_Item)) = Z at hZl hZt ⊢
        refine GS.know (p := l.length + 1 ≤ x2) (fun w hw => by have := (hw.ok 5 _ rfl).1.1; rwa [hZl] at this) (fun hx2 => ?_)
        refine GS.seq ?_
        refine GS.region (env' := fun _ => [(0, .slice ob l.length cap), (1, .int .i64 (j : Int)), (7, .int .i64 ((1 : Nat) : Int)), (9, .slice x1 (l.length + 1) x2)]) (mem' := fun _ => [(1, r91 ob l), (5, .osl x1 x2 91 4 (Z.take j ++ (List.map S_api_Item.row [x] ++ Z.drop (j + (List.map S_api_Item.row [x]).length)))), (6, .rd (cutOb ob j cap 4) 4 (((List.map S_api_Item.row l).drop j).take (l.length - j)))])
          (RunsTo.mk [(2, { act := .cut j (l.length + 1) x2, sp := some (.slice (cutOb x1 j x2 4) (l.length + 1 - j) (x2 - j)) }), (4, { act := .copyAt j (some 2), key := some 5 })] [0, 1, 7, 9] [1, 5, 6]
            (fun _ => [((j : Nat) : Int) = ((j : Nat) : Int), l.length + 1 = l.length + 1, x2 = x2, j ≤ l.length + 1, l.length + 1 ≤ x2, x2 ≤ x2, (none : Option Operand) = none → (none : Option Operand) = none, (.slice (if x2 = j then x1 else x1.map (fun a => a.add (j * 4))) (l.length + 1 - j) (x2 - j) : Value) = .slice (cutOb x1 j x2 4) (l.length + 1 - j) (x2 - j),
              vob = vob, 1 = (List.map S_api_Item.row [x]).length, cutOb x1 j x2 4 = cutOb x1 j x2 4, l.length + 1 - j = Z.length - j, 1 ≤ (List.map S_api_Item.row [x]).length, j + (List.map S_api_Item.row [x]).length ≤ Z.length, (List.map S_api_Item.row [x]).flatten.all Value.oneCell' = true])
            (fun _ => by kernel_rfl) (fun _ => ⟨rfl, rfl, rfl, (by omega), hx2, Nat.le_refl _, (fun h => h), rfl, rfl, rfl, rfl, (by rw [hZl]), Nat.le_refl _, (by rw [hZl]; show j + 1 ≤ _; omega), rfl, trivial⟩)) ?_
        intro _
        refine GS.conv (mem' := [(1, r91 ob l), (5, .osl x1 x2 91 4 (List.map S_api_Item.row (l.take j ++ [x]) ++ Z.drop (j + 1))), (6, .rd (cutOb ob j cap 4) 4 (((List.map S_api_Item.row l).drop j).take (l.length - j)))]) rfl (congrArg (fun rr : List (List Value) => ([(1, r91 ob l), (5, .osl x1 x2 91 4 rr), (6, .rd (cutOb ob j cap 4) 4 (((List.map S_api_Item.row l).drop j).take (l.length - j)))] : List (Nat × Ent))) (by rw [hZt, List.map_append, List.append_assoc]; rfl)) ?_
        have hYl : (List.map S_api_Item.row (l.take j ++ [x]) ++ Z.drop (j + 1)).length = l.length + 1 := by simp [hZl]; omega
        have hYt : (List.map S_api_Item.row (l.take j ++ [x]) ++ Z.drop (j + 1)).take (j + 1) = List.map S_api_Item.row (l.take j ++ [x]) := by rw [List.take_append_of_le_length (by simp <;> omega), List.take_of_length_le (by simp <;> omega)]
        generalize (List.map S_api_Item.row (l.take j ++ [x]) ++ Z.drop (j + 1)) = Y at hYl hYt ⊢
        have hsrc : ((List.map S_api_Item.row l).drop j).take (l.length - j) = List.map S_api_Item.row (l.drop j) := by rw [List.take_of_length_le (by simp), List.map_drop]
        have hsl : (((List.map S_api_Item.row l).drop j).take (l.length - j)).length = l.length - j := by simp
        refine GS.seq ?_
        refine GS.region (env' := fun _ => [(9, .slice x1 (l.length + 1) x2)]) (mem' := fun _ => [(5, .osl x1 x2 91 4 (Y.take (j + 1) ++ ((((List.map S_api_Item.row l).drop j).take (l.length - j)) ++ Y.drop (j + 1 + (((List.map S_api_Item.row l).drop j).take (l.length - j)).length))))])
          (RunsTo.mkd [(3, { sp := some (.int .i64 ((j + 1 : Nat) : Int)) }), (4, { act := .cut (j + 1) (l.length + 1) x2, sp := some (.slice (cutOb x1 (j + 1) x2 4) (l.length + 1 - (j + 1)) (x2 - (j + 1))) }), (7, { act := .cut j l.length cap, sp := some (.slice (cutOb ob j cap 4) (l.length - j) (cap - j)) }), (8, { act := .copyAt (j + 1) (some 6), key := some 5 })] [9] [5]
            (fun _ => [Value.int .i64 (IntKind.i64.wrap (((j : Nat) : Int) + ((1 : Nat) : Int))) = .int .i64 ((j + 1 : Nat) : Int),
              ((j + 1 : Nat) : Int) = ((j + 1 : Nat) : Int), l.length + 1 = l.length + 1, x2 = x2, j + 1 ≤ l.length + 1, l.length + 1 ≤ x2, x2 ≤ x2, (none : Option Operand) = none → (none : Option Operand) = none, (.slice (if x2 = j + 1 then x1 else x1.map (fun a => a.add ((j + 1) * 4))) (l.length + 1 - (j + 1)) (x2 - (j + 1)) : Value) = .slice (cutOb x1 (j + 1) x2 4) (l.length + 1 - (j + 1)) (x2 - (j + 1)),
              ((j : Nat) : Int) = ((j : Nat) : Int), l.length = l.length, cap = cap, j ≤ l.length, l.length ≤ cap, cap ≤ cap, (none : Option Operand) = none → (none : Option Operand) = none, (.slice (if cap = j then ob else ob.map (fun a => a.add (j * 4))) (l.length - j) (cap - j) : Value) = .slice (cutOb ob j cap 4) (l.length - j) (cap - j),
              cutOb ob j cap 4 = cutOb ob j cap 4, l.length - j = (((List.map S_api_Item.row l).drop j).take (l.length - j)).length, cutOb x1 (j + 1) x2 4 = cutOb x1 (j + 1) x2 4, l.length + 1 - (j + 1) = Y.length - (j + 1), 1 ≤ (((List.map S_api_Item.row l).drop j).take (l.length - j)).length, j + 1 + (((List.map S_api_Item.row l).drop j).take (l.length - j)).length ≤ Y.length, (((List.map S_api_Item.row l).drop j).take (l.length - j)).flatten.all Value.oneCell' = true])
            (by kernel_rfl) (by kernel_rfl) (fun _ => by kernel_rfl) (fun _ => ⟨hw2, rfl, rfl, rfl, (by omega), hx2, Nat.le_refl _, (fun h => h), rfl, rfl, rfl, rfl, hj, hc, Nat.le_refl _, (fun h => h), rfl, rfl, hsl.symm, rfl, (by rw [hYl]), (by rw [hsl]; omega), (by rw [hsl, hYl]; omega), (by rw [hsrc]; exact all_one S_api_Item.row _ (fun _ => rfl)), trivial⟩)) ?_
        intro _
        refine GS.conv (mem' := [(5, o91 x1 x2 (l.take j ++ (x :: l.drop j)))]) rfl (congrArg (fun rr : List (List Value) => ([(5, .osl x1 x2 91 4 rr)] : List (Nat × Ent))) (by rw [hYt, hsl, hsrc, show Y.drop (j + 1 + (l.length - j)) = [] from List.drop_of_length_le (by omega), List.append_nil, ← List.map_append, List.append_assoc]; rfl)) ?_
        refine GS.seq ?_
        refine GS.rM (env' := fun _ => [(6, .slice x1 (l.length + 1) x2)]) (RunsTo.mk [] [6] [5] (fun _ => []) (fun _ => by kernel_rfl) (fun _ => trivial)) (fun _ => ?_)
        refine GS.ret (fn := Tryz.f58) [0] [.slice x1 (l.length + 1) x2] [] rfl Tryz.func58 (by kernel_rfl) trivial (fun w' hs => ?_)
        exact ⟨⟨x1, x2⟩, rfl, hs.turnedG (ks := [5]) rfl rfl⟩
    · have hcl : l.length + 1 ≤ cap := by have := of_decide_eq_false h31; omega
      refine GS.skip ?_
      refine GS.seq ?_
      refine GS.rM (env' := fun _ => [(0, .slice ob (l.length + 1) cap), (1, .int .i64 (j : Int)), (2, .slice vob 1 vcap), (7, .int .i64 ((1 : Nat) : Int))]) (RunsTo.mk [(3, { sp := some (.int .i64 ((l.length + 1 : Nat) : Int)) }), (4, { act := .cut 0 (l.length + 1) cap, sp := some (.slice ob (l.length + 1) cap) })] [0, 1, 2, 7] [1, 2]
        (fun _ => [Value.int .i64 (IntKind.i64.wrap (((l.length : Nat) : Int) + ((1 : Nat) : Int))) = .int .i64 ((l.length + 1 : Nat) : Int), 0 = 0, ((l.length + 1 : Nat) : Int) = ((l.length + 1 : Nat) : Int), cap = cap, 0 ≤ l.length + 1, l.length + 1 ≤ cap, cap ≤ cap, (some (Operand.tmp 59) : Option Operand) = none → (none : Option Operand) = none, (.slice (if cap = 0 then ob else ob.map (fun a => a.add (0 * 4))) (l.length + 1 - 0) (cap - 0) : Value) = .slice ob (l.length + 1) cap])
        (fun _ => by kernel_rfl) (fun _ => ⟨hw1, rfl, rfl, rfl, Nat.zero_le _, hcl, Nat.le_refl _, (by intro h; cases h), cut_zero _ _ _ _, trivial⟩)) (fun _ => ?_)
      refine GS.setMemE (X := List Value) (mem' := fun r => [(1, .osl ob cap 91 4 (List.map S_api_Item.row l ++ [r])), (2, o91 vob vcap [x])]) (fun w hw => ?_) (fun r => ?_)
      · obtain ⟨r, hr⟩ := osl_more (hw.ok 1 (o91 ob cap l) rfl) (by rw [hml]; omega)
        refine ⟨r, ?_⟩
        have := hw.step (k := 1) (e' := some (.osl ob cap 91 4 (List.map S_api_Item.row l ++ [r]))) (w' := w) ⟨Keep.refl _ _, fun E hE => by cases hE; exact hr, fun E hE b hb => .inr ⟨_, rfl, by cases hE; exact hb, fun h => rfl⟩⟩
        rw [← look_setKey (mem := [(1, o91 ob cap l), (2, o91 vob vcap [x])]) (k := 1) rfl] at this
        exact this
      have hRl : (List.map S_api_Item.row l ++ [r]).length = l.length + 1 := by simp
      have hRt : (List.map S_api_Item.row l ++ [r]).take (j + 1) = List.map S_api_Item.row (l.take (j + 1)) := by rw [List.take_append_of_le_length (by simp <;> omega), List.map_take]
      have hRd : ((List.map S_api_Item.row l ++ [r]).drop j).take (l.length + 1 - (j + 1)) = List.map S_api_Item.row (l.drop j) := by
        rw [List.drop_append_of_le_length (by simp <;> omega), List.take_append_of_le_length (by simp <;> omega), List.take_of_length_le (by simp <;> omega), List.map_drop]
      generalize (List.map S_api_Item.row l ++ [r]) = Z at hRl hRt hRd ⊢
      refine GS.seq ?_
      refine GS.seq ?_
      refine GS.open_ ?_
      refine GR.ru (i := 0) 6 rfl (env' := fun _ => [(0, .slice ob (l.length + 1) cap), (1, .int .i64 (j : Int)), (2, .slice vob 1 vcap), (7, .int .i64 ((1 : Nat) : Int)), (61, .slice vob 1 vcap), (66, .slice (cutOb ob (j + 1) cap 4) (l.length + 1 - (j + 1)) (cap - (j + 1)))]) (mem' := fun _ => [(1, .osl ob cap 91 4 Z), (2, o91 vob vcap [x])])
        (RunsTo.mk [(4, { sp := some (.int .i64 ((j + 1 : Nat) : Int)) }), (5, { act := .cut (j + 1) (l.length + 1) cap, sp := some (.slice (cutOb ob (j + 1) cap 4) (l.length + 1 - (j + 1)) (cap - (j + 1))) })] [0, 1, 2, 7, 61, 66] [1, 2]
          (fun _ => [Value.int .i64 (IntKind.i64.wrap (((j : Nat) : Int) + ((1 : Nat) : Int))) = .int .i64 ((j + 1 : Nat) : Int), ((j + 1 : Nat) : Int) = ((j + 1 : Nat) : Int), l.length + 1 = l.length + 1, cap = cap, j + 1 ≤ l.length + 1, l.length + 1 ≤ cap, cap ≤ cap, (none : Option Operand) = none → (none : Option Operand) = none, (.slice (if cap = j + 1 then ob else ob.map (fun a => a.add ((j + 1) * 4))) (l.length + 1 - (j + 1)) (cap - (j + 1)) : Value) = .slice (cutOb ob (j + 1) cap 4) (l.length + 1 - (j + 1)) (cap - (j + 1))])
          (fun _ => by kernel_rfl) (fun _ => ⟨hw2, rfl, rfl, rfl, (by omega), hcl, Nat.le_refl _, (fun h => h), rfl, trivial⟩)) (fun _ => ?_)
      refine GR.prim (X := Unit) (i := 6) (v := fun _ => .bool false) (mem' := fun _ => [(1, .osl ob cap 91 4 Z), (2, o91 vob vcap [x])]) (env' := fun _ => [(0, .slice ob (l.length + 1) cap), (1, .int .i64 (j : Int)), (2, .slice vob 1 vcap), (7, .int .i64 ((1 : Nat) : Int)), (67, .bool false)]) [0, 1, 2, 7, 67] rfl (by kernel_rfl) (fun w hw => ?_) (fun _ => by kernel_rfl) (fun _ => ?_)
      · refine ⟨(), w, exec_func (f := 83) (x := .tmp 61) (y := .tmp 66) (st := 26) (yt := 26) rfl rfl (run_apart (fn := Tryz.f83) (tS := 26) (tR := 4) (e := 91) (size := 4) (ob := ob) (vob := vob) (cap := cap) (vcap := vcap) (T := 91) (T' := 91) (sz := 4) (rows := Z) (vrows := List.map S_api_Item.row [x]) Tryz.func83 (by kernel_rfl) (by kernel_rfl) (by kernel_rfl) (by kernel_rfl) (by kernel_rfl) (by kernel_rfl) (by decide) (by decide) (hw.ok 1 _ rfl) (hw.ok 2 (o91 vob vcap [x]) rfl) (by omega) (by omega) (fun b hb => hw.apart 1 2 _ (o91 vob vcap [x]) (by decide) rfl rfl rfl b hb)), hw⟩
      refine GR.ru (i := 7) 1 rfl (env' := fun _ => [(0, .slice ob (l.length + 1) cap), (1, .int .i64 (j : Int)), (2, .slice vob 1 vcap), (7, .int .i64 ((1 : Nat) : Int)), (68, .bool true)]) (mem' := fun _ => [(1, .osl ob cap 91 4 Z), (2, o91 vob vcap [x])]) (RunsTo.mk [] [0, 1, 2, 7, 68] [1, 2] (fun _ => []) (fun _ => by kernel_rfl) (fun _ => trivial)) (fun _ => ?_)
      refine GR.dn rfl ?_
      refine GS.cond (t := true) rfl rfl (fun _ => ?_) (fun h => by cases h)
      refine GS.seq ?_
      refine GS.regionMid 8 1 (env' := fun _ => [(0, .slice ob (l.length + 1) cap), (1, .int .i64 (j : Int)), (2, .slice vob 1 vcap), (73, .slice (cutOb ob (j + 1) cap 4) (l.length + 1 - (j + 1)) (cap - (j + 1))), (76, .slice (cutOb ob j cap 4) (l.length + 1 - j) (cap - j))]) (mem' := fun _ => [(1, .osl ob cap 91 4 Z), (2, o91 vob vcap [x])]) [(3, { sp := some (.int .i64 ((j + 1 : Nat) : Int)) }), (4, { act := .cut (j + 1) (l.length + 1) cap, sp := some (.slice (cutOb ob (j + 1) cap 4) (l.length + 1 - (j + 1)) (cap - (j + 1))) }), (7, { act := .cut j (l.length + 1) cap, sp := some (.slice (cutOb ob j cap 4) (l.length + 1 - j) (cap - j)) })] [0, 1, 2, 73, 76] [1, 2]
        (fun _ => [Value.int .i64 (IntKind.i64.wrap (((j : Nat) : Int) + ((1 : Nat) : Int))) = .int .i64 ((j + 1 : Nat) : Int), ((j + 1 : Nat) : Int) = ((j + 1 : Nat) : Int), l.length + 1 = l.length + 1, cap = cap, j + 1 ≤ l.length + 1, l.length + 1 ≤ cap, cap ≤ cap, (none : Option Operand) = none → (none : Option Operand) = none, (.slice (if cap = j + 1 then ob else ob.map (fun a => a.add ((j + 1) * 4))) (l.length + 1 - (j + 1)) (cap - (j + 1)) : Value) = .slice (cutOb ob (j + 1) cap 4) (l.length + 1 - (j + 1)) (cap - (j + 1)),
          ((j : Nat) : Int) = ((j : Nat) : Int), l.length + 1 = l.length + 1, cap = cap, j ≤ l.length + 1, l.length + 1 ≤ cap, cap ≤ cap, (none : Option Operand) = none → (none : Option Operand) = none, (.slice (if cap = j then ob else ob.map (fun a => a.add (j * 4))) (l.length + 1 - j) (cap - j) : Value) = .slice (cutOb ob j cap 4) (l.length + 1 - j) (cap - j)])
        (by kernel_rfl) (by kernel_rfl) (by kernel_rfl) (by kernel_rfl) (fun _ => by kernel_rfl) (fun _ => ⟨hw2, rfl, rfl, rfl, (by omega), hcl, Nat.le_refl _, (fun h => h), rfl, rfl, rfl, rfl, (by omega), hcl, Nat.le_refl _, (fun h => h), rfl, trivial⟩) (fun _ => ?_)
      refine GA.prim (X := Unit) (i := 8) (v := fun _ => .int .i64 ((l.length + 1 - (j + 1) : Nat) : Int)) (mem' := fun _ => [(1, .osl ob cap 91 4 (Z.take (j + 1) ++ (Z.drop j).take (Z.length - (j + 1)))), (2, o91 vob vcap [x])]) (env' := fun _ => [(0, .slice ob (l.length + 1) cap), (1, .int .i64 (j : Int)), (2, .slice vob 1 vcap)]) [0, 1, 2] (by kernel_rfl) rfl (by kernel_rfl) (fun w hw => ?_) (fun _ => by kernel_rfl) (fun _ => ?_)
      · obtain ⟨w', hr, hE⟩ := run_copySelf (P := Tryz.prog) (st := 26) (yt := 26) (ty := 3) (elem := 91) (sz := 4) (l := j + 1) (j := j) (dc := cap - (j + 1)) (sc := cap - j) (by kernel_rfl) (by kernel_rfl) (hw.ok 1 _ rfl) (by omega) (by omega) (by rw [hRl, hRd]; exact all_one S_api_Item.row _ (fun _ => rfl))
        have hs := hw.step (k := 1) hE
        rw [← look_setKey (mem := [(1, .osl ob cap 91 4 Z), (2, o91 vob vcap [x])]) (k := 1) rfl] at hs
        simp only [hRl] at hr
        exact ⟨(), w', exec_copy (s := .tmp 73) (y := .tmp 76) (st := 26) (yt := 26) rfl hr, hs⟩
      refine GA.rest (i := 9) (env' := fun _ => [(0, .slice ob (l.length + 1) cap), (1, .int .i64 (j : Int)), (2, .slice vob 1 vcap)]) (mem' := fun _ => [(1, .osl ob cap 91 4 (Z.take (j + 1) ++ (Z.drop j).take (Z.length - (j + 1)))), (2, o91 vob vcap [x])]) [] [0, 1, 2] [1, 2] (fun _ => []) (by kernel_rfl) (fun _ => by kernel_rfl) (fun _ => trivial) (fun _ => ?_)
      have hYe : Z.take (j + 1) ++ (Z.drop j).take (Z.length - (j + 1)) = List.map S_api_Item.row (l.take (j + 1) ++ l.drop j) := by rw [hRl, hRt, hRd, List.map_append]
      have hYl : (Z.take (j + 1) ++ (Z.drop j).take (Z.length - (j + 1))).length = l.length + 1 := by rw [hYe]; simp; omega
      generalize (Z.take (j + 1) ++ (Z.drop j).take (Z.length - (j + 1))) = Y at hYe hYl ⊢
      refine GS.seq ?_
      refine GS.region (env' := fun _ => [(0, .slice ob (l.length + 1) cap)]) (mem' := fun _ => [(1, .osl ob cap 91 4 (Y.take j ++ (List.map S_api_Item.row [x] ++ Y.drop (j + (List.map S_api_Item.row [x]).length))))])
        (RunsTo.mk [(2, { act := .cut j (l.length + 1) cap, sp := some (.slice (cutOb ob j cap 4) (l.length + 1 - j) (cap - j)) }), (4, { act := .copyAt j (some 2), key := some 1 })] [0] [1]
          (fun _ => [((j : Nat) : Int) = ((j : Nat) : Int), l.length + 1 = l.length + 1, cap = cap, j ≤ l.length + 1, l.length + 1 ≤ cap, cap ≤ cap, (none : Option Operand) = none → (none : Option Operand) = none, (.slice (if cap = j then ob else ob.map (fun a => a.add (j * 4))) (l.length + 1 - j) (cap - j) : Value) = .slice (cutOb ob j cap 4) (l.length + 1 - j) (cap - j),
            vob = vob, 1 = (List.map S_api_Item.row [x]).length, cutOb ob j cap 4 = cutOb ob j cap 4, l.length + 1 - j = Y.length - j, 1 ≤ (List.map S_api_Item.row [x]).length, j + (List.map S_api_Item.row [x]).length ≤ Y.length, (List.map S_api_Item.row [x]).flatten.all Value.oneCell' = true])
          (fun _ => by kernel_rfl) (fun _ => ⟨rfl, rfl, rfl, (by omega), hcl, Nat.le_refl _, (fun h => h), rfl, rfl, rfl, rfl, (by rw [hYl]), Nat.le_refl _, (by rw [hYl]; show j + 1 ≤ _; omega), rfl, trivial⟩)) ?_
      intro _
      refine GS.conv (mem' := [(1, o91 ob cap (l.take j ++ (x :: l.drop j)))]) rfl (congrArg (fun rr : List (List Value) => ([(1, .osl ob cap 91 4 rr)] : List (Nat × Ent))) (by
        rw [hYe]
        have e1 : (l.take (j + 1) ++ l.drop j).take j = l.take j := by rw [List.take_append_of_le_length (by simp <;> omega), List.take_take, Nat.min_eq_left (by omega)]
        have e2 : (l.take (j + 1) ++ l.drop j).drop (j + 1) = l.drop j := by rw [List.drop_append_of_le_length (by simp <;> omega), List.drop_of_length_le (by simp <;> omega), List.nil_append]
        rw [← List.map_take, ← List.map_drop, e1]
        show List.map S_api_Item.row (l.take j) ++ (List.map S_api_Item.row [x] ++ List.map S_api_Item.row ((l.take (j + 1) ++ l.drop j).drop (j + 1))) = _
        rw [e2, ← List.map_append, ← List.map_append]; rfl)) ?_
      refine GS.seq ?_
      refine GS.rM (env' := fun _ => [(6, .slice ob (l.length + 1) cap)]) (RunsTo.mk [] [6] [1] (fun _ => []) (fun _ => by kernel_rfl) (fun _ => trivial)) (fun _ => ?_)
      refine GS.ret (fn := Tryz.f58) [0] [.slice ob (l.length + 1) cap] [] rfl Tryz.func58 (by kernel_rfl) trivial (fun w' hs => ?_)
      exact ⟨⟨ob, cap⟩, rfl, hs.turnedG (ks := [1]) rfl rfl⟩

theorem ins58_ok (ob : Option Addr) (cap : Nat) (l : List S_api_Item) (i : Int) (vob : Option Addr) (vcap : Nat) (m : List S_api_Item) (hm : m.length = 1) (h1 : 0 ≤ i) (h2 : Int.toNat i ≤ l.length) (h3 : App (l.length + 1) 40) :
    CallG Tryz.prog 58 #[.slice ob l.length cap, .int .i64 i, .slice vob m.length vcap] (X := Option Addr × Nat) (fun ⟨x1, x2⟩ => .slice x1 (l.take (Int.toNat i) ++ (m ++ l.drop (Int.toNat i))).length x2) [o91 ob cap l, o91 vob vcap m] [] (fun ⟨x1, x2⟩ => [o91 x1 x2 (l.take (Int.toNat i) ++ (m ++ l.drop (Int.toNat i)))]) := by
  obtain ⟨x, rfl⟩ := List.length_eq_one_iff.1 hm
  obtain ⟨j, rfl⟩ := Int.eq_ofNat_of_zero_le h1
  simp only [Int.toNat_natCast] at h2 ⊢
  have hl : (l.take j ++ ([x] ++ l.drop j)).length = l.length + 1 := by simp <;> omega
  rw [hl]
  exact ins58_in ob cap l j vob vcap x h2 h3

end Go.Proofs.YtjnbkhnebmlilaaGreat

set_option linter.unusedVariables false
set_option linter.unusedSimpArgs false
set_option maxRecDepth 100000
namespace Go.Proofs.YtjnbkhnebmlilaaGreat
open Go Go.RowKit Sx

end Go.Proofs.YtjnbkhnebmlilaaGreat

